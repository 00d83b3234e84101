/-
  Texts joined: Sz To Eq.
-/
import Derived.Test.YtagaefgglphkgaaJA
import Derived.Test.YtagaefgglphkgaaProg
import Derived.KernelRfl
set_option maxHeartbeats 2000000
set_option linter.unusedSimpArgs false
set_option linter.unusedVariables false
namespace Go.Proofs.Ytagaefgglphkgaa
open Go.RowKit
open Below renaming refl→a_
open List renaming getElem?_eq_getElem→b_,getElem?_map→e_,getElem_mem→f_,take_of_length_le→g_,take_succ_eq_append_getElem→h_,length_map→i_,getElem_map→j_,drop_eq_nil_of_le→m_,mem_of_getElem? →n_,mem_map_of_mem→p_,length_singleton→u_,append_assoc→w_,length_set→x_,map_cons→y_
open Nat renaming le_refl→c_,lt_of_lt_of_le→k_,le_trans→l_,mul_one→z_
open Lib renaming hid→d_
open Instr renaming makeSlice→o_
open Value renaming cells→q_
open Int renaming le_refl→r_,sub_zero→t_
open SizeOf renaming sizeOf→s_
theorem IG(l:List Int):D.wts (l.map li)=0:=by
 induction l with
 |nil=>rfl
 |cons x l ih=>rw[y_,D.wts,ih];rfl
theorem IJ(l:List Int):gY Try.prog 101 (l.map li):=by
 intro w fp v left hS hwf h0 h1;obtain⟨A,c,rfl,hl,hc⟩:=hS.ak;rw[IG,i_];have hm:l.length≤9223372036854775807:=by unfold maxLen at hc;omega
 clear hS hc hl
 go_enter Try.func101,Try.ntmps101
 go_wp2
 ·go_ret
  exact⟨_,rfl,bU.out (by omega),by omega,by omega,a_ _ _⟩
 ·go_ret
  exact⟨_,rfl,bU.sub (by omega),by omega,by omega,a_ _ _⟩
theorem vY(l:List ByteArray):gY Try.prog 78 (l.map ls):=by
 intro w fp v left hS hwf h0 h1;obtain⟨A,c,rfl,hl,hc⟩:=hS.ak;rw[i_];have hm:l.length≤9223372036854775807:=by unfold maxLen at hc;omega
 clear hc hl
 go_enter Try.func78,Try.ntmps78
 go_wp2_with fail
 ·go_ret
  exact⟨_,rfl,(bU.out (k:=l.length) (by omega)).stop (by omega) _,by omega,by omega,a_ _ _⟩
 go_loopw [1,5] (fun lv iv wr=>∃(k:Nat) (m:Int),k≤l.length∧0≤m∧m≤left∧m+D.wts (l.map ls)=left - l.length+D.wts ((l.map ls).drop k)∧lv= .int .i64 m∧iv= .int .i64 k∧Below w.heap.size w wr) (fun _ iv _=>l.length - (intOf iv).toNat)
 case atStart=>exact⟨0,left - l.length,by omega,by omega,by omega,rfl,rfl,rfl,a_ _ _⟩
 case round=>
  obtain⟨k,m,hk,hm0,hm1,he,rfl,rfl,hb⟩:=hrel;by_cases hlt:k<l.length
  ·have hd:(l.map ls)[k]? =some (ls l[k]):=by rw[e_,b_ hlt];rfl
   obtain⟨b,o,fi,ci,rfl,hbb,hbf,hri,hfi,hat⟩:=hS.elem wX hd;have hwk:=D.pq hwf (n_ hd);have hst:=D.oM (l.map ls) k (by simpa using hlt);rw[j_]at hst;have hri':=hri;obtain⟨rfl,rfl⟩:=hri;clear hri';have hw:(l[k]).size≤9223372036854775807:=hwk;have q0:wr.cell? ⟨b,o+k,none⟩=some (.string l[k]):=(hb.cell (p:=⟨b,o+k,none⟩) hbb).trans (by simpa using hat.head);have hst':D.wts ((l.map ls).drop k)=(l[k]).size+D.wts ((l.map ls).drop (k+1)):=hst;have he':=d_ he;clear hat hwk hst he hd
   go_wp2_with fail
   ·go_ret
    have:=he'.out;exact⟨_,rfl,bU.out (by omega),by omega,by omega,hb⟩
   ·go_roundw
    case rel=>
     have:=he'.out;exact⟨k+1,_,by omega,by omega,by omega,by omega,rfl,by go_num,hb⟩
    case measure=>simp[intOf];omega
  ·have hk':k=l.length:=by omega
   have hd0:D.wts ((l.map ls).drop k)=0:=by rw[hk',m_ (by simp)];rfl
   have he':=d_ he;have hd':=d_ hd0;have hk'':=d_ hk';clear he hd0 hk'
   go_wp2_with fail
   go_ret
   have:=he'.out;have:=hd'.out;refine⟨_,rfl, ?_,by omega,by omega,hb⟩;unfold bU;omega
theorem Bl(l:List ByteArray):gY Try.prog 78 (l.map ls):=vY l
theorem BF(l:List GOrigin):D.wts (l.map GOrigin.toD)=0:=by
 induction l with
 |nil=>rfl
 |cons x l ih=>rw[y_,D.wts,ih];rfl
theorem BH(l:List GOrigin):gY Try.prog 102 (l.map GOrigin.toD):=by
 intro w fp v left hS hwf h0 h1;obtain⟨A,c,rfl,hl,hc⟩:=hS.ak;rw[BF,i_];have hm:l.length≤9223372036854775807:=by unfold maxLen at hc;omega
 clear hS hc hl
 go_enter Try.func102,Try.ntmps102
 go_wp2
 ·go_ret
  exact⟨_,rfl,bU.out (by omega),by omega,by omega,a_ _ _⟩
 ·go_ret
  exact⟨_,rfl,bU.sub (by omega),by omega,by omega,a_ _ _⟩
theorem GRow.jc(x:GRow)(hE0:gY Try.prog 101 (x.cells.map li))(hE1:gY Try.prog 102 (x.src.map GOrigin.toD)):jf Try.prog 93 x.toD:=by
 intro w fp cs left hR hwf h0 h1;rw[GRow.gZ];rw[GRow.aj]at hwf;obtain⟨hw0,hw1,_⟩:=hwf;obtain⟨v0,v1,f0,f1,rfl,rfl,hS0,hS1⟩:=GRow.opened.1 hR;obtain⟨A0,c0,rfl,hq0a,hq0b⟩:=hS0.ak;obtain⟨A1,c1,rfl,hq1a,hq1b⟩:=hS1.ak;clear hq0a hq0b;clear hq1a hq1b;clear hR;have H0:bU left 0 left:=Or.inr ⟨h0,(t_ _).symm⟩
 go_enter Try.func93,Try.ntmps93
 go_wp2_with fail
 refine(hE0 _ _ _ _ (hS0.below ((a_ _ _).alloc (c_ _) _)) hw0 (by omega) (by omega)).mono ?_;rintro e w1 ⟨r1,rfl,hr1,hra1,hrb1,hb1⟩;have hz1:w.heap.size+1≤w1.heap.size:=by simpa using hb1.size
 obtain⟨hcc1,hcf1⟩:=DJ hb1;have G1:Below w.heap.size w w1:=((a_ _ _).alloc (c_ _) _).trans (hb1.mono (by simp));have H1:=H0.step (by omega) hr1
 go_wp2_with fail
 ·go_ret
  exact⟨_,rfl,(H1).stop (by omega) _,by omega,by omega,G1⟩
 refine(hE1 _ _ _ _ (hS1.below (G1)) hw1 (by omega) (by omega)).mono ?_;rintro e w2 ⟨r2,rfl,hr2,hra2,hrb2,hb2⟩;have hz2:w.heap.size+1≤w2.heap.size:=l_ hz1 hb2.size;have hcc2:∀o,w2.cell? ⟨w.heap.size,o,none⟩=w1.cell? ⟨w.heap.size,o,none⟩:=fun o=>hb2.cell (p:=⟨w.heap.size,o,none⟩) hz1
 have G2:Below w.heap.size w w2:=(G1).trans (hb2.mono (by omega));have H2:=H1.step (by omega) hr2
 go_wp2_with fail
 ·go_ret
  exact⟨_,rfl,H2.stop (by omega) 0,by omega,by omega,G2⟩
 go_ret
 exact⟨_,rfl,H2,by omega,by omega,G2⟩
theorem Bv(l:List GRow)(hE:∀x∈l,jf Try.prog 93 x.toD):gY Try.prog 79 (l.map GRow.toD):=by
 intro w fp v left hS hwf h0 h1;obtain⟨A,c,rfl,hl,hc⟩:=hS.ak;rw[i_];have hm:l.length≤9223372036854775807:=by unfold maxLen at hc;omega
 clear hc hl
 go_enter Try.func79,Try.ntmps79
 go_wp2_with fail
 ·go_ret
  exact⟨_,rfl,(bU.out (k:=l.length) (by omega)).stop (by omega) _,by omega,by omega,a_ _ _⟩
 go_loopw [1,5] (fun lv iv wr=>∃(k:Nat) (m:Int),k≤l.length∧0≤m∧m≤left∧m+D.wts (l.map GRow.toD)=left - l.length+D.wts ((l.map GRow.toD).drop k)∧lv= .int .i64 m∧iv= .int .i64 k∧Below w.heap.size w wr) (fun _ iv _=>l.length - (intOf iv).toNat)
 case atStart=>exact⟨0,left - l.length,by omega,by omega,by omega,rfl,rfl,rfl,a_ _ _⟩
 case round=>
  obtain⟨k,m,hk,hm0,hm1,he,rfl,rfl,hb⟩:=hrel;by_cases hlt:k<l.length
  ·have hd:(l.map GRow.toD)[k]? =some (GRow.toD l[k]):=by rw[e_,b_ hlt];rfl
   obtain⟨b,o,fi,ci,rfl,hbb,hbf,hri,hfi,hat⟩:=hS.elem GRow.szs hd;have hwk:=D.pq hwf (n_ hd);have hst:=D.oM (l.map GRow.toD) k (by simpa using hlt);rw[j_]at hst;have hri':=hri;obtain⟨v0,v1,g0,g1,rfl,rfl,hT0,hT1⟩:=GRow.opened.1 hri;obtain⟨A0,c0,rfl,hq0a,hq0b⟩:=hT0.ak;obtain⟨A1,c1,rfl,hq1a,hq1b⟩:=hT1.ak;clear hq0a hq0b hT0;clear hq1a hq1b hT1;have q0:=(hb.cell (p:=⟨b,o+k*2,none⟩) hbb).trans (hat.head);have q1:=(hb.cell (p:=⟨b,o+k*2+1,none⟩) hbb).trans (hat.nth 1 rfl);have hst':=d_ hst;have he':=d_ he;clear hat hst he hd
   go_wp2_with fail
   refine(hE _ (f_ hlt) _ _ _ _ (hri'.same (fun x hx=>hb.block x (hS.lt x (hfi x hx))) hb.size) hwk (by omega) (by omega)).mono ?_;rintro e w1 ⟨r,rfl,hr,hra,hrb,hb1⟩;have G1:Below w.heap.size w w1:=hb.trans (hb1.mono hb.size)
   go_wp2_with fail
   ·go_ret
    have:=he'.out;have:=hst'.out;refine⟨_,rfl, ?_,by omega,by omega,G1⟩;unfold bU at*;omega
   ·go_roundw
    case rel=>
     have:=he'.out;have:=hst'.out;have:=hr.le (by omega);exact⟨k+1,r,by omega,by omega,by omega,by omega,rfl,by go_num,G1⟩
    case measure=>simp[intOf];omega
  ·have hk':k=l.length:=by omega
   have hd0:D.wts ((l.map GRow.toD).drop k)=0:=by rw[hk',m_ (by simp)];rfl
   have he':=d_ he;have hd':=d_ hd0;have hk'':=d_ hk';clear he hd0 hk'
   go_wp2_with fail
   go_ret
   have:=he'.out;have:=hd'.out;refine⟨_,rfl, ?_,by omega,by omega,hb⟩;unfold bU;omega
theorem GRow.lC(x:GRow):jf Try.prog 93 x.toD:=GRow.jc x (IJ _) (BH _)
theorem Iz(l:List GRow):gY Try.prog 79 (l.map GRow.toD):=Bv l fun x _=>x.lC
theorem GVal.jc(x:GVal)(hE0:gY Try.prog 17 (x.list.map GVal.toD))(hE1:gY Try.prog 78 (x.cols.map ls))(hE2:gY Try.prog 79 (x.rows.map GRow.toD)):jf Try.prog 51 x.toD:=by
 intro w fp cs left hR hwf h0 h1;rw[GVal.gZ];rw[GVal.aj]at hwf;obtain⟨_,_,_,hw3,hw4,hw5,hw6,_⟩:=hwf;obtain⟨v0,v1,v2,f0,f1,f2,rfl,rfl,hS0,hS1,hS2⟩:=GVal.opened.1 hR;obtain⟨A0,c0,rfl,hq0a,hq0b⟩:=hS0.ak;obtain⟨A1,c1,rfl,hq1a,hq1b⟩:=hS1.ak;obtain⟨A2,c2,rfl,hq2a,hq2b⟩:=hS2.ak;clear hq0a hq0b;clear hq1a hq1b;clear hq2a hq2b;replace hw3:x.text.size≤9223372036854775807:=hw3;clear hR;have H0:bU left 0 left:=Or.inr ⟨h0,(t_ _).symm⟩
 go_enter Try.func51,Try.ntmps51
 go_wp2_with fail
 ·go_ret
  exact⟨_,rfl,((((H0.step (by omega) (bU.out (by omega))).stop (by omega) _).stop (by omega) _).stop (by omega) _),by omega,by omega,(a_ _ _).alloc (c_ _) _⟩
 refine(hE0 _ _ _ _ (hS0.below ((a_ _ _).alloc (c_ _) _)) hw4 (by omega) (by omega)).mono ?_;rintro e w1 ⟨r1,rfl,hr1,hra1,hrb1,hb1⟩;have hz1:w.heap.size+1≤w1.heap.size:=by simpa using hb1.size
 obtain⟨hcc1,hcf1⟩:=DJ hb1;have G1:Below w.heap.size w w1:=((a_ _ _).alloc (c_ _) _).trans (hb1.mono (by simp));have H2:=(H0.step (by omega) (bU.sub (k:=x.text.size) (by omega))).step (by omega) hr1
 go_wp2_with fail
 ·go_ret
  exact⟨_,rfl,((H2).stop (by omega) _).stop (by omega) _,by omega,by omega,G1⟩
 refine(hE1 _ _ _ _ (hS1.below (G1)) hw5 (by omega) (by omega)).mono ?_;rintro e w2 ⟨r2,rfl,hr2,hra2,hrb2,hb2⟩;have hz2:w.heap.size+1≤w2.heap.size:=l_ hz1 hb2.size;have hcc2:∀o,w2.cell? ⟨w.heap.size,o,none⟩=w1.cell? ⟨w.heap.size,o,none⟩:=fun o=>hb2.cell (p:=⟨w.heap.size,o,none⟩) hz1
 have G2:Below w.heap.size w w2:=(G1).trans (hb2.mono (by omega));have H3:=H2.step (by omega) hr2
 go_wp2_with fail
 ·go_ret
  exact⟨_,rfl,(H3).stop (by omega) _,by omega,by omega,G2⟩
 refine(hE2 _ _ _ _ (hS2.below (G2)) hw6 (by omega) (by omega)).mono ?_;rintro e w3 ⟨r3,rfl,hr3,hra3,hrb3,hb3⟩;have hz3:w.heap.size+1≤w3.heap.size:=l_ hz2 hb3.size;have hcc3:∀o,w3.cell? ⟨w.heap.size,o,none⟩=w2.cell? ⟨w.heap.size,o,none⟩:=fun o=>hb3.cell (p:=⟨w.heap.size,o,none⟩) hz2
 have G3:Below w.heap.size w w3:=(G2).trans (hb3.mono (by omega));have H4:=H3.step (by omega) hr3
 go_wp2_with fail
 ·go_ret
  exact⟨_,rfl,H4.stop (by omega) 0,by omega,by omega,G3⟩
 go_ret
 exact⟨_,rfl,H4,by omega,by omega,G3⟩
theorem xQ(l:List GVal)(hE:∀x∈l,jf Try.prog 51 x.toD):gY Try.prog 17 (l.map GVal.toD):=by
 intro w fp v left hS hwf h0 h1;obtain⟨A,c,rfl,hl,hc⟩:=hS.ak;rw[i_];have hm:l.length≤9223372036854775807:=by unfold maxLen at hc;omega
 clear hc hl
 go_enter Try.func17,Try.ntmps17
 go_wp2_with fail
 ·go_ret
  exact⟨_,rfl,(bU.out (k:=l.length) (by omega)).stop (by omega) _,by omega,by omega,a_ _ _⟩
 go_loopw [1,5] (fun lv iv wr=>∃(k:Nat) (m:Int),k≤l.length∧0≤m∧m≤left∧m+D.wts (l.map GVal.toD)=left - l.length+D.wts ((l.map GVal.toD).drop k)∧lv= .int .i64 m∧iv= .int .i64 k∧Below w.heap.size w wr) (fun _ iv _=>l.length - (intOf iv).toNat)
 case atStart=>exact⟨0,left - l.length,by omega,by omega,by omega,rfl,rfl,rfl,a_ _ _⟩
 case round=>
  obtain⟨k,m,hk,hm0,hm1,he,rfl,rfl,hb⟩:=hrel;by_cases hlt:k<l.length
  ·have hd:(l.map GVal.toD)[k]? =some (GVal.toD l[k]):=by rw[e_,b_ hlt];rfl
   obtain⟨b,o,fi,ci,rfl,hbb,hbf,hri,hfi,hat⟩:=hS.elem GVal.szs hd;have hwk:=D.pq hwf (n_ hd);have hst:=D.oM (l.map GVal.toD) k (by simpa using hlt);rw[j_]at hst;have hri':=hri;obtain⟨v0,v1,v2,g0,g1,g2,rfl,rfl,hT0,hT1,hT2⟩:=GVal.opened.1 hri;obtain⟨A0,c0,rfl,hq0a,hq0b⟩:=hT0.ak;obtain⟨A1,c1,rfl,hq1a,hq1b⟩:=hT1.ak;obtain⟨A2,c2,rfl,hq2a,hq2b⟩:=hT2.ak;clear hq0a hq0b hT0;clear hq1a hq1b hT1;clear hq2a hq2b hT2;have q0:=(hb.cell (p:=⟨b,o+k*7,none⟩) hbb).trans (hat.head);have q1:=(hb.cell (p:=⟨b,o+k*7+1,none⟩) hbb).trans (hat.nth 1 rfl);have q2:=(hb.cell (p:=⟨b,o+k*7+2,none⟩) hbb).trans (hat.nth 2 rfl);have q3:=(hb.cell (p:=⟨b,o+k*7+3,none⟩) hbb).trans (hat.nth 3 rfl);have q4:=(hb.cell (p:=⟨b,o+k*7+4,none⟩) hbb).trans (hat.nth 4 rfl);have q5:=(hb.cell (p:=⟨b,o+k*7+5,none⟩) hbb).trans (hat.nth 5 rfl);have q6:=(hb.cell (p:=⟨b,o+k*7+6,none⟩) hbb).trans (hat.nth 6 rfl);have hst':=d_ hst;have he':=d_ he;clear hat hst he hd
   go_wp2_with fail
   refine(hE _ (f_ hlt) _ _ _ _ (hri'.same (fun x hx=>hb.block x (hS.lt x (hfi x hx))) hb.size) hwk (by omega) (by omega)).mono ?_;rintro e w1 ⟨r,rfl,hr,hra,hrb,hb1⟩;have G1:Below w.heap.size w w1:=hb.trans (hb1.mono hb.size)
   go_wp2_with fail
   ·go_ret
    have:=he'.out;have:=hst'.out;refine⟨_,rfl, ?_,by omega,by omega,G1⟩;unfold bU at*;omega
   ·go_roundw
    case rel=>
     have:=he'.out;have:=hst'.out;have:=hr.le (by omega);exact⟨k+1,r,by omega,by omega,by omega,by omega,rfl,by go_num,G1⟩
    case measure=>simp[intOf];omega
  ·have hk':k=l.length:=by omega
   have hd0:D.wts ((l.map GVal.toD).drop k)=0:=by rw[hk',m_ (by simp)];rfl
   have he':=d_ he;have hd':=d_ hd0;have hk'':=d_ hk';clear he hd0 hk'
   go_wp2_with fail
   go_ret
   have:=he'.out;have:=hd'.out;refine⟨_,rfl, ?_,by omega,by omega,hb⟩;unfold bU;omega
theorem GVal.lC(x:GVal):jf Try.prog 51 x.toD:=GVal.jc x (xQ _ fun y hy=>GVal.lC y) (Bl _) (Iz _)
termination_by s_ x
decreasing_by exact GVal.lt_of_mem hy
theorem GExpr.jc(x:GExpr)(hE0:gY Try.prog 92 (x.args.map GExpr.toD)):jf Try.prog 77 x.toD:=by
 intro w fp cs left hR hwf h0 h1;rw[GExpr.gZ];rw[GExpr.aj]at hwf;obtain⟨_,_,hw2,hw3,_⟩:=hwf;obtain⟨v0,f0,rfl,rfl,hS0⟩:=GExpr.opened.1 hR;obtain⟨A0,c0,rfl,hq0a,hq0b⟩:=hS0.ak;clear hq0a hq0b;replace hw2:x.text.size≤9223372036854775807:=hw2;clear hR;have H0:bU left 0 left:=Or.inr ⟨h0,(t_ _).symm⟩
 go_enter Try.func77,Try.ntmps77
 go_wp2_with fail
 ·go_ret
  exact⟨_,rfl,((H0.step (by omega) (bU.out (by omega))).stop (by omega) _),by omega,by omega,(a_ _ _).alloc (c_ _) _⟩
 refine(hE0 _ _ _ _ (hS0.below ((a_ _ _).alloc (c_ _) _)) hw3 (by omega) (by omega)).mono ?_;rintro e w1 ⟨r1,rfl,hr1,hra1,hrb1,hb1⟩;have hz1:w.heap.size+1≤w1.heap.size:=by simpa using hb1.size
 obtain⟨hcc1,hcf1⟩:=DJ hb1;have G1:Below w.heap.size w w1:=((a_ _ _).alloc (c_ _) _).trans (hb1.mono (by simp));have H2:=(H0.step (by omega) (bU.sub (k:=x.text.size) (by omega))).step (by omega) hr1
 go_wp2_with fail
 ·go_ret
  exact⟨_,rfl,H2.stop (by omega) 0,by omega,by omega,G1⟩
 go_ret
 exact⟨_,rfl,H2,by omega,by omega,G1⟩
theorem zu(l:List GExpr)(hE:∀x∈l,jf Try.prog 77 x.toD):gY Try.prog 92 (l.map GExpr.toD):=by
 intro w fp v left hS hwf h0 h1;obtain⟨A,c,rfl,hl,hc⟩:=hS.ak;rw[i_];have hm:l.length≤9223372036854775807:=by unfold maxLen at hc;omega
 clear hc hl
 go_enter Try.func92,Try.ntmps92
 go_wp2_with fail
 ·go_ret
  exact⟨_,rfl,(bU.out (k:=l.length) (by omega)).stop (by omega) _,by omega,by omega,a_ _ _⟩
 go_loopw [1,5] (fun lv iv wr=>∃(k:Nat) (m:Int),k≤l.length∧0≤m∧m≤left∧m+D.wts (l.map GExpr.toD)=left - l.length+D.wts ((l.map GExpr.toD).drop k)∧lv= .int .i64 m∧iv= .int .i64 k∧Below w.heap.size w wr) (fun _ iv _=>l.length - (intOf iv).toNat)
 case atStart=>exact⟨0,left - l.length,by omega,by omega,by omega,rfl,rfl,rfl,a_ _ _⟩
 case round=>
  obtain⟨k,m,hk,hm0,hm1,he,rfl,rfl,hb⟩:=hrel;by_cases hlt:k<l.length
  ·have hd:(l.map GExpr.toD)[k]? =some (GExpr.toD l[k]):=by rw[e_,b_ hlt];rfl
   obtain⟨b,o,fi,ci,rfl,hbb,hbf,hri,hfi,hat⟩:=hS.elem GExpr.szs hd;have hwk:=D.pq hwf (n_ hd);have hst:=D.oM (l.map GExpr.toD) k (by simpa using hlt);rw[j_]at hst;have hri':=hri;obtain⟨v0,g0,rfl,rfl,hT0⟩:=GExpr.opened.1 hri;obtain⟨A0,c0,rfl,hq0a,hq0b⟩:=hT0.ak;clear hq0a hq0b hT0;have q0:=(hb.cell (p:=⟨b,o+k*4,none⟩) hbb).trans (hat.head);have q1:=(hb.cell (p:=⟨b,o+k*4+1,none⟩) hbb).trans (hat.nth 1 rfl);have q2:=(hb.cell (p:=⟨b,o+k*4+2,none⟩) hbb).trans (hat.nth 2 rfl);have q3:=(hb.cell (p:=⟨b,o+k*4+3,none⟩) hbb).trans (hat.nth 3 rfl);have hst':=d_ hst;have he':=d_ he;clear hat hst he hd
   go_wp2_with fail
   refine(hE _ (f_ hlt) _ _ _ _ (hri'.same (fun x hx=>hb.block x (hS.lt x (hfi x hx))) hb.size) hwk (by omega) (by omega)).mono ?_;rintro e w1 ⟨r,rfl,hr,hra,hrb,hb1⟩;have G1:Below w.heap.size w w1:=hb.trans (hb1.mono hb.size)
   go_wp2_with fail
   ·go_ret
    have:=he'.out;have:=hst'.out;refine⟨_,rfl, ?_,by omega,by omega,G1⟩;unfold bU at*;omega
   ·go_roundw
    case rel=>
     have:=he'.out;have:=hst'.out;have:=hr.le (by omega);exact⟨k+1,r,by omega,by omega,by omega,by omega,rfl,by go_num,G1⟩
    case measure=>simp[intOf];omega
  ·have hk':k=l.length:=by omega
   have hd0:D.wts ((l.map GExpr.toD).drop k)=0:=by rw[hk',m_ (by simp)];rfl
   have he':=d_ he;have hd':=d_ hd0;have hk'':=d_ hk';clear he hd0 hk'
   go_wp2_with fail
   go_ret
   have:=he'.out;have:=hd'.out;refine⟨_,rfl, ?_,by omega,by omega,hb⟩;unfold bU;omega
theorem GExpr.lC(x:GExpr):jf Try.prog 77 x.toD:=GExpr.jc x (zu _ fun y hy=>GExpr.lC y)
termination_by s_ x
decreasing_by exact GExpr.lt_of_mem hy
theorem GPart.jc(x:GPart)(hE0:jf Try.prog 77 x.expr.toD)(hE1:jf Try.prog 51 x.value.toD):jf Try.prog 50 x.toD:=by
 intro w fp cs left hR hwf h0 h1;rw[GPart.gZ];rw[GPart.aj]at hwf;obtain⟨_,hw1,hw2,hw3,_,_⟩:=hwf;obtain⟨v0,v1,v2,v3,f0,f1,f2,f3,rfl,rfl,hS0,hS1,hS2,hS3⟩:=GPart.opened.1 hR;obtain⟨A0,c0,rfl,hq0a,hq0b⟩:=hS0.ak;obtain⟨A1,c1,rfl,hq1a,hq1b⟩:=hS1.ak;obtain⟨A2,c2,rfl,hq2a,hq2b⟩:=hS2.ak;obtain⟨A3,c3,rfl,hq3a,hq3b⟩:=hS3.ak;clear hq0a hq0b;clear hq1a hq1b;clear hq2a hq2b;clear hq3a hq3b;replace hw1:x.name.size≤9223372036854775807:=hw1;clear hR;have H0:bU left 0 left:=Or.inr ⟨h0,(t_ _).symm⟩
 go_enter Try.func50,Try.ntmps50
 go_wp2_with fail
 ·go_ret
  exact⟨_,rfl,(((H0.step (by omega) (bU.out (by omega))).stop (by omega) _).stop (by omega) _),by omega,by omega,(a_ _ _).alloc (c_ _) _⟩
 refine(hE0 _ _ _ _ (GExpr.opened.2 ⟨_,_,rfl,rfl,hS0.below ((a_ _ _).alloc (c_ _) _)⟩) hw2 (by omega) (by omega)).mono ?_;rintro e w1 ⟨r1,rfl,hr1,hra1,hrb1,hb1⟩;have hz1:w.heap.size+1≤w1.heap.size:=by simpa using hb1.size
 obtain⟨hcc1,hcf1⟩:=DJ hb1;have G1:Below w.heap.size w w1:=((a_ _ _).alloc (c_ _) _).trans (hb1.mono (by simp));have H2:=(H0.step (by omega) (bU.sub (k:=x.name.size) (by omega))).step (by omega) hr1
 go_wp2_with fail
 ·go_ret
  exact⟨_,rfl,(H2).stop (by omega) _,by omega,by omega,G1⟩
 refine(hE1 _ _ _ _ (GVal.opened.2 ⟨_,_,_,_,_,_,rfl,rfl,hS1.below (G1),hS2.below (G1),hS3.below (G1)⟩) hw3 (by omega) (by omega)).mono ?_;rintro e w2 ⟨r2,rfl,hr2,hra2,hrb2,hb2⟩;have hz2:w.heap.size+1≤w2.heap.size:=l_ hz1 hb2.size;have hcc2:∀o,w2.cell? ⟨w.heap.size,o,none⟩=w1.cell? ⟨w.heap.size,o,none⟩:=fun o=>hb2.cell (p:=⟨w.heap.size,o,none⟩) hz1
 have G2:Below w.heap.size w w2:=(G1).trans (hb2.mono (by omega));have H3:=H2.step (by omega) hr2
 go_wp2_with fail
 ·go_ret
  exact⟨_,rfl,H3.stop (by omega) 0,by omega,by omega,G2⟩
 go_ret
 exact⟨_,rfl,H3,by omega,by omega,G2⟩
theorem GPart.lC(x:GPart):jf Try.prog 50 x.toD:=GPart.jc x (GExpr.lC _) (GVal.lC _)
theorem GRead.jc(x:GRead)(hE0:jf Try.prog 51 x.result.toD):jf Try.prog 64 x.toD:=by
 intro w fp cs left hR hwf h0 h1;rw[GRead.gZ];rw[GRead.aj]at hwf;obtain⟨_,_,_,hw3,hw4,_⟩:=hwf;obtain⟨v0,v1,v2,f0,f1,f2,rfl,rfl,hS0,hS1,hS2⟩:=GRead.opened.1 hR;obtain⟨A0,c0,rfl,hq0a,hq0b⟩:=hS0.ak;obtain⟨A1,c1,rfl,hq1a,hq1b⟩:=hS1.ak;obtain⟨A2,c2,rfl,hq2a,hq2b⟩:=hS2.ak;clear hq0a hq0b;clear hq1a hq1b;clear hq2a hq2b;replace hw3:x.text.size≤9223372036854775807:=hw3;clear hR;have H0:bU left 0 left:=Or.inr ⟨h0,(t_ _).symm⟩
 go_enter Try.func64,Try.ntmps64
 go_wp2_with fail
 ·go_ret
  exact⟨_,rfl,((H0.step (by omega) (bU.out (by omega))).stop (by omega) _),by omega,by omega,(a_ _ _).alloc (c_ _) _⟩
 refine(hE0 _ _ _ _ (GVal.opened.2 ⟨_,_,_,_,_,_,rfl,rfl,hS0.below ((a_ _ _).alloc (c_ _) _),hS1.below ((a_ _ _).alloc (c_ _) _),hS2.below ((a_ _ _).alloc (c_ _) _)⟩) hw4 (by omega) (by omega)).mono ?_;rintro e w1 ⟨r1,rfl,hr1,hra1,hrb1,hb1⟩;have hz1:w.heap.size+1≤w1.heap.size:=by simpa using hb1.size
 obtain⟨hcc1,hcf1⟩:=DJ hb1;have G1:Below w.heap.size w w1:=((a_ _ _).alloc (c_ _) _).trans (hb1.mono (by simp));have H2:=(H0.step (by omega) (bU.sub (k:=x.text.size) (by omega))).step (by omega) hr1
 go_wp2_with fail
 ·go_ret
  exact⟨_,rfl,H2.stop (by omega) 0,by omega,by omega,G1⟩
 go_ret
 exact⟨_,rfl,H2,by omega,by omega,G1⟩
theorem zk(l:List GRead)(hE:∀x∈l,jf Try.prog 64 x.toD):gY Try.prog 29 (l.map GRead.toD):=by
 intro w fp v left hS hwf h0 h1;obtain⟨A,c,rfl,hl,hc⟩:=hS.ak;rw[i_];have hm:l.length≤9223372036854775807:=by unfold maxLen at hc;omega
 clear hc hl
 go_enter Try.func29,Try.ntmps29
 go_wp2_with fail
 ·go_ret
  exact⟨_,rfl,(bU.out (k:=l.length) (by omega)).stop (by omega) _,by omega,by omega,a_ _ _⟩
 go_loopw [1,5] (fun lv iv wr=>∃(k:Nat) (m:Int),k≤l.length∧0≤m∧m≤left∧m+D.wts (l.map GRead.toD)=left - l.length+D.wts ((l.map GRead.toD).drop k)∧lv= .int .i64 m∧iv= .int .i64 k∧Below w.heap.size w wr) (fun _ iv _=>l.length - (intOf iv).toNat)
 case atStart=>exact⟨0,left - l.length,by omega,by omega,by omega,rfl,rfl,rfl,a_ _ _⟩
 case round=>
  obtain⟨k,m,hk,hm0,hm1,he,rfl,rfl,hb⟩:=hrel;by_cases hlt:k<l.length
  ·have hd:(l.map GRead.toD)[k]? =some (GRead.toD l[k]):=by rw[e_,b_ hlt];rfl
   obtain⟨b,o,fi,ci,rfl,hbb,hbf,hri,hfi,hat⟩:=hS.elem GRead.szs hd;have hwk:=D.pq hwf (n_ hd);have hst:=D.oM (l.map GRead.toD) k (by simpa using hlt);rw[j_]at hst;have hri':=hri;obtain⟨v0,v1,v2,g0,g1,g2,rfl,rfl,hT0,hT1,hT2⟩:=GRead.opened.1 hri;obtain⟨A0,c0,rfl,hq0a,hq0b⟩:=hT0.ak;obtain⟨A1,c1,rfl,hq1a,hq1b⟩:=hT1.ak;obtain⟨A2,c2,rfl,hq2a,hq2b⟩:=hT2.ak;clear hq0a hq0b hT0;clear hq1a hq1b hT1;clear hq2a hq2b hT2;have q0:=(hb.cell (p:=⟨b,o+k*11,none⟩) hbb).trans (hat.head);have q1:=(hb.cell (p:=⟨b,o+k*11+1,none⟩) hbb).trans (hat.nth 1 rfl);have q2:=(hb.cell (p:=⟨b,o+k*11+2,none⟩) hbb).trans (hat.nth 2 rfl);have q3:=(hb.cell (p:=⟨b,o+k*11+3,none⟩) hbb).trans (hat.nth 3 rfl);have q4:=(hb.cell (p:=⟨b,o+k*11+4,none⟩) hbb).trans (hat.nth 4 rfl);have q5:=(hb.cell (p:=⟨b,o+k*11+5,none⟩) hbb).trans (hat.nth 5 rfl);have q6:=(hb.cell (p:=⟨b,o+k*11+6,none⟩) hbb).trans (hat.nth 6 rfl);have q7:=(hb.cell (p:=⟨b,o+k*11+7,none⟩) hbb).trans (hat.nth 7 rfl);have q8:=(hb.cell (p:=⟨b,o+k*11+8,none⟩) hbb).trans (hat.nth 8 rfl);have q9:=(hb.cell (p:=⟨b,o+k*11+9,none⟩) hbb).trans (hat.nth 9 rfl);have q10:=(hb.cell (p:=⟨b,o+k*11+10,none⟩) hbb).trans (hat.nth 10 rfl);have hst':=d_ hst;have he':=d_ he;clear hat hst he hd
   go_wp2_with fail
   refine(hE _ (f_ hlt) _ _ _ _ (hri'.same (fun x hx=>hb.block x (hS.lt x (hfi x hx))) hb.size) hwk (by omega) (by omega)).mono ?_;rintro e w1 ⟨r,rfl,hr,hra,hrb,hb1⟩;have G1:Below w.heap.size w w1:=hb.trans (hb1.mono hb.size)
   go_wp2_with fail
   ·go_ret
    have:=he'.out;have:=hst'.out;refine⟨_,rfl, ?_,by omega,by omega,G1⟩;unfold bU at*;omega
   ·go_roundw
    case rel=>
     have:=he'.out;have:=hst'.out;have:=hr.le (by omega);exact⟨k+1,r,by omega,by omega,by omega,by omega,rfl,by go_num,G1⟩
    case measure=>simp[intOf];omega
  ·have hk':k=l.length:=by omega
   have hd0:D.wts ((l.map GRead.toD).drop k)=0:=by rw[hk',m_ (by simp)];rfl
   have he':=d_ he;have hd':=d_ hd0;have hk'':=d_ hk';clear he hd0 hk'
   go_wp2_with fail
   go_ret
   have:=he'.out;have:=hd'.out;refine⟨_,rfl, ?_,by omega,by omega,hb⟩;unfold bU;omega
theorem GRead.lC(x:GRead):jf Try.prog 64 x.toD:=GRead.jc x (GVal.lC _)
theorem wo(l:List GRead):gY Try.prog 29 (l.map GRead.toD):=zk l fun x _=>x.lC
theorem GTape.jc(x:GTape)(hE0:gY Try.prog 29 (x.reads.map GRead.toD)):jf Try.prog 36 x.toD:=by
 intro w fp cs left hR hwf h0 h1;rw[GTape.gZ];rw[GTape.aj]at hwf;obtain⟨_,_,hw2,_⟩:=hwf;obtain⟨v0,f0,rfl,rfl,hS0⟩:=GTape.opened.1 hR;obtain⟨A0,c0,rfl,hq0a,hq0b⟩:=hS0.ak;clear hq0a hq0b;clear hR;have H0:bU left 0 left:=Or.inr ⟨h0,(t_ _).symm⟩
 go_enter Try.func36,Try.ntmps36
 go_wp2_with fail
 refine(hE0 _ _ _ _ (hS0.below ((a_ _ _).alloc (c_ _) _)) hw2 (by omega) (by omega)).mono ?_;rintro e w1 ⟨r1,rfl,hr1,hra1,hrb1,hb1⟩;have hz1:w.heap.size+1≤w1.heap.size:=by simpa using hb1.size
 obtain⟨hcc1,hcf1⟩:=DJ hb1;have G1:Below w.heap.size w w1:=((a_ _ _).alloc (c_ _) _).trans (hb1.mono (by simp));have H1:=H0.step (by omega) hr1
 go_wp2_with fail
 ·go_ret
  exact⟨_,rfl,H1.stop (by omega) 0,by omega,by omega,G1⟩
 go_ret
 exact⟨_,rfl,H1,by omega,by omega,G1⟩
theorem y8(l:List GTape)(hE:∀x∈l,jf Try.prog 36 x.toD):gY Try.prog 7 (l.map GTape.toD):=by
 intro w fp v left hS hwf h0 h1;obtain⟨A,c,rfl,hl,hc⟩:=hS.ak;rw[i_];have hm:l.length≤9223372036854775807:=by unfold maxLen at hc;omega
 clear hc hl
 go_enter Try.func7,Try.ntmps7
 go_wp2_with fail
 ·go_ret
  exact⟨_,rfl,(bU.out (k:=l.length) (by omega)).stop (by omega) _,by omega,by omega,a_ _ _⟩
 go_loopw [1,5] (fun lv iv wr=>∃(k:Nat) (m:Int),k≤l.length∧0≤m∧m≤left∧m+D.wts (l.map GTape.toD)=left - l.length+D.wts ((l.map GTape.toD).drop k)∧lv= .int .i64 m∧iv= .int .i64 k∧Below w.heap.size w wr) (fun _ iv _=>l.length - (intOf iv).toNat)
 case atStart=>exact⟨0,left - l.length,by omega,by omega,by omega,rfl,rfl,rfl,a_ _ _⟩
 case round=>
  obtain⟨k,m,hk,hm0,hm1,he,rfl,rfl,hb⟩:=hrel;by_cases hlt:k<l.length
  ·have hd:(l.map GTape.toD)[k]? =some (GTape.toD l[k]):=by rw[e_,b_ hlt];rfl
   obtain⟨b,o,fi,ci,rfl,hbb,hbf,hri,hfi,hat⟩:=hS.elem GTape.szs hd;have hwk:=D.pq hwf (n_ hd);have hst:=D.oM (l.map GTape.toD) k (by simpa using hlt);rw[j_]at hst;have hri':=hri;obtain⟨v0,g0,rfl,rfl,hT0⟩:=GTape.opened.1 hri;obtain⟨A0,c0,rfl,hq0a,hq0b⟩:=hT0.ak;clear hq0a hq0b hT0;have q0:=(hb.cell (p:=⟨b,o+k*3,none⟩) hbb).trans (hat.head);have q1:=(hb.cell (p:=⟨b,o+k*3+1,none⟩) hbb).trans (hat.nth 1 rfl);have q2:=(hb.cell (p:=⟨b,o+k*3+2,none⟩) hbb).trans (hat.nth 2 rfl);have hst':=d_ hst;have he':=d_ he;clear hat hst he hd
   go_wp2_with fail
   refine(hE _ (f_ hlt) _ _ _ _ (hri'.same (fun x hx=>hb.block x (hS.lt x (hfi x hx))) hb.size) hwk (by omega) (by omega)).mono ?_;rintro e w1 ⟨r,rfl,hr,hra,hrb,hb1⟩;have G1:Below w.heap.size w w1:=hb.trans (hb1.mono hb.size)
   go_wp2_with fail
   ·go_ret
    have:=he'.out;have:=hst'.out;refine⟨_,rfl, ?_,by omega,by omega,G1⟩;unfold bU at*;omega
   ·go_roundw
    case rel=>
     have:=he'.out;have:=hst'.out;have:=hr.le (by omega);exact⟨k+1,r,by omega,by omega,by omega,by omega,rfl,by go_num,G1⟩
    case measure=>simp[intOf];omega
  ·have hk':k=l.length:=by omega
   have hd0:D.wts ((l.map GTape.toD).drop k)=0:=by rw[hk',m_ (by simp)];rfl
   have he':=d_ he;have hd':=d_ hd0;have hk'':=d_ hk';clear he hd0 hk'
   go_wp2_with fail
   go_ret
   have:=he'.out;have:=hd'.out;refine⟨_,rfl, ?_,by omega,by omega,hb⟩;unfold bU;omega
theorem GTape.lC(x:GTape):jf Try.prog 36 x.toD:=GTape.jc x (wo _)
theorem vW(l:List GTape):gY Try.prog 7 (l.map GTape.toD):=y8 l fun x _=>x.lC
theorem Jo :(Try.prog.info? 3).map (fun i=>(i.zero,i.size,i.bytes))=some (some (.int .i64 0),1,8):=by kernel_rfl
theorem BN(l:List Int):fV Try.prog 103 (l.map li):=by
 intro w fp v hS hwt;obtain⟨A,c,rfl,hl,hc⟩:=hS.ak;rw[i_]at hwt;obtain⟨i0,hi0,hz0,hz1,hz2⟩:=info_parts Jo;have hmk:∀W:World,(o_ 108 (.int .i64 (l.length:Int)) (.int .i64 (l.length:Int))).run Try.prog W= .ok (.slice (some ⟨W.heap.size,0,none⟩) l.length l.length) (W.alloc (.cells (madeCells (q_ (.int .i64 0)) (l.length*1)) 3)):=fun W=>by
  have h:=run_make (P:=Try.prog) W 108 3 i0 _ Try.underlying108 hi0 hz0 .i64 .i64 (l.length:Int) (l.length:Int) (by omega) (r_ _) (by rw[hz2];omega) (by omega);rw[hz1]at h;simpa using h
 clear hl hc hi0 hz0 hz1 hz2
 go_enter Try.func103,Try.ntmps103
 go_wp2_with fail
 go_loopw [4] (fun iv wr=>∃(k:Nat) (xs:List Value) (fs:List Nat),k≤l.length∧iv= .int .i64 k∧Row wr w.heap.size 3 xs∧xs.length=l.length*1∧Rs wr ((l.map li).take k) fs (xs.take (k*1))∧aX wr (w.heap.size+1) fs∧Below w.heap.size w wr) (fun iv _=>l.length - (intOf iv).toNat)
 case atStart=>
  refine⟨0,_,[],by omega,rfl,Row.new _ _ _,by simp[madeCells],by simp[Rs],aX.nil,(a_ _ _).alloc (c_ _) _⟩
 case round=>
  obtain⟨k,xs,fs,hk,rfl,hrow,hxl,hrs,hfr,hb⟩:=hrel;by_cases hlt:k<l.length
  ·have hd:(l.map li)[k]? =some (li l[k]):=by rw[e_,b_ hlt];rfl
   obtain⟨b,o,fi,ci,rfl,hbb,hbf,hri,hfi,hat⟩:=hS.elem Ah hd;have hri':=hri;have hxk:=d_ (show k*1+1≤xs.length by rw[hxl];omega);have hxl':=d_ hxl;have hlw:=hrow.lt;obtain⟨rfl,rfl⟩:=hri;have q0:wr.cell? ⟨b,o+k,none⟩=some (.int .i64 l[k]):=(hb.cell (p:=⟨b,o+k,none⟩) hbb).trans (by simpa using hat.head);clear hat hd hxl;have hrow1:=hrow;have G1:=hb;have k0:=hrow1.at_ (i:=k) (by have:=hxk.out;omega)
   have hn1:=hrow1.frozen
   go_wp2_with fail
   go_roundw
   case rel=>
    have hxk:=hxk.out;have hxl:=hxl'.out;clear k0 hn1;have hne:w.heap.size∉fs:=fun h=>by have:=(hfr.2 _ h).1;omega
    refine⟨k+1,xs.set k (.int .i64 l[k]),fs,by omega,by go_num,hrow1.set k (.int .i64 l[k]),by rw[x_];exact hxl, ?_,hfr.setCell hne _,G1.setCell (c_ _) _⟩;have e1:(xs.set k (.int .i64 l[k])).take (k+1)=xs.take k++ [.int .i64 l[k]]:=jJ [.int .i64 l[k]] xs k (by simp only[u_];omega);rw[z_]at hrs⊢;rw[e1,h_ (by simpa using hlt),j_];have hr:=hrs.setCell (p:=⟨w.heap.size,k,none⟩) hne (.int .i64 l[k]);have:=Rs.append (Rs.one (show R (wr.setCell ⟨w.heap.size,k,none⟩ (.int .i64 l[k])) (li l[k]) [] [.int .i64 l[k]] from⟨rfl,rfl⟩)) hr;simpa using this
   case measure=>simp[intOf];omega
  ·have hk':=d_ (show k=l.length by omega);have hxl':=d_ hxl;clear hxl
   go_wp2_with fail
   go_ret
   have hxl:=hxl'.out;have hk:=hk'.out;subst hk;rw[g_ (by simp),g_ (by omega)]at hrs;exact⟨_,_,rfl,Sl.pG hrow hrs (by simp) (by unfold maxLen;omega),aX.lZ hrow (c_ _) hfr,hb⟩
theorem II(l:List Int):fV Try.prog 103 (l.map li):=BN l
theorem BU :(Try.prog.info? 9).map (fun i=>(i.zero,i.size,i.bytes))=some (some (.string ⟨#[]⟩),1,16):=by kernel_rfl
theorem vX(l:List ByteArray):fV Try.prog 83 (l.map ls):=by
 intro w fp v hS hwt;obtain⟨A,c,rfl,hl,hc⟩:=hS.ak;rw[i_]at hwt;obtain⟨i0,hi0,hz0,hz1,hz2⟩:=info_parts BU;have hmk:∀W:World,(o_ 38 (.int .i64 (l.length:Int)) (.int .i64 (l.length:Int))).run Try.prog W= .ok (.slice (some ⟨W.heap.size,0,none⟩) l.length l.length) (W.alloc (.cells (madeCells (q_ (.string ⟨#[]⟩)) (l.length*1)) 9)):=fun W=>by
  have h:=run_make (P:=Try.prog) W 38 9 i0 _ Try.underlying38 hi0 hz0 .i64 .i64 (l.length:Int) (l.length:Int) (by omega) (r_ _) (by rw[hz2];omega) (by omega);rw[hz1]at h;simpa using h
 clear hl hc hi0 hz0 hz1 hz2
 go_enter Try.func83,Try.ntmps83
 go_wp2_with fail
 go_loopw [4] (fun iv wr=>∃(k:Nat) (xs:List Value) (fs:List Nat),k≤l.length∧iv= .int .i64 k∧Row wr w.heap.size 9 xs∧xs.length=l.length*1∧Rs wr ((l.map ls).take k) fs (xs.take (k*1))∧aX wr (w.heap.size+1) fs∧Below w.heap.size w wr) (fun iv _=>l.length - (intOf iv).toNat)
 case atStart=>
  refine⟨0,_,[],by omega,rfl,Row.new _ _ _,by simp[madeCells],by simp[Rs],aX.nil,(a_ _ _).alloc (c_ _) _⟩
 case round=>
  obtain⟨k,xs,fs,hk,rfl,hrow,hxl,hrs,hfr,hb⟩:=hrel;by_cases hlt:k<l.length
  ·have hd:(l.map ls)[k]? =some (ls l[k]):=by rw[e_,b_ hlt];rfl
   obtain⟨b,o,fi,ci,rfl,hbb,hbf,hri,hfi,hat⟩:=hS.elem wX hd;have hri':=hri;have hxk:=d_ (show k*1+1≤xs.length by rw[hxl];omega);have hxl':=d_ hxl;have hlw:=hrow.lt;obtain⟨rfl,rfl⟩:=hri;have q0:wr.cell? ⟨b,o+k,none⟩=some (.string l[k]):=(hb.cell (p:=⟨b,o+k,none⟩) hbb).trans (by simpa using hat.head);clear hat hd hxl;have hrow1:=hrow;have G1:=hb;have k0:=hrow1.at_ (i:=k) (by have:=hxk.out;omega)
   have hn1:=hrow1.frozen
   go_wp2_with fail
   go_roundw
   case rel=>
    have hxk:=hxk.out;have hxl:=hxl'.out;clear k0 hn1;have hne:w.heap.size∉fs:=fun h=>by have:=(hfr.2 _ h).1;omega
    refine⟨k+1,xs.set k (.string l[k]),fs,by omega,by go_num,hrow1.set k (.string l[k]),by rw[x_];exact hxl, ?_,hfr.setCell hne _,G1.setCell (c_ _) _⟩;have e1:(xs.set k (.string l[k])).take (k+1)=xs.take k++ [.string l[k]]:=jJ [.string l[k]] xs k (by simp only[u_];omega);rw[z_]at hrs⊢;rw[e1,h_ (by simpa using hlt),j_];have hr:=hrs.setCell (p:=⟨w.heap.size,k,none⟩) hne (.string l[k]);have:=Rs.append (Rs.one (show R (wr.setCell ⟨w.heap.size,k,none⟩ (.string l[k])) (ls l[k]) [] [.string l[k]] from⟨rfl,rfl⟩)) hr;simpa using this
   case measure=>simp[intOf];omega
  ·have hk':=d_ (show k=l.length by omega);have hxl':=d_ hxl;clear hxl
   go_wp2_with fail
   go_ret
   have hxl:=hxl'.out;have hk:=hk'.out;subst hk;rw[g_ (by simp),g_ (by omega)]at hrs;exact⟨_,_,rfl,Sl.pG hrow hrs (by simp) (by unfold maxLen;omega),aX.lZ hrow (c_ _) hfr,hb⟩
theorem Bj(l:List ByteArray):fV Try.prog 83 (l.map ls):=vX l
theorem GOrigin.iy(x:GOrigin):iJ Try.prog 106 x.toD:=by
 intro w fp cs hR hwt;rw[GOrigin.gZ]at hwt;obtain⟨rfl,rfl⟩:=GOrigin.opened.1 hR;clear hR
 go_enter Try.func106,Try.ntmps106
 go_wp2_with fail
 refine bodyPost_ret (v:= .agg #[.int .i64 x.cell,.int .i64 x.row]) (by simp[results,Try.results106,go_sem]) rfl ⟨[],_,rfl,GOrigin.opened.2 ⟨rfl,rfl⟩,aX.nil, ?_⟩
 repeat (first|exact a_ _ _|refine Below.setCell ?_ (by simp;try omega) _|refine Below.alloc ?_ (by simp;try omega) _)
theorem BX :(Try.prog.info? 126).map (fun i=>(i.zero,i.size,i.bytes))=some (some (.agg #[.int .i64 0,.int .i64 0]),2,16):=by kernel_rfl
theorem wE(l:List GOrigin)(hE:∀x∈l,iJ Try.prog 106 x.toD):fV Try.prog 104 (l.map GOrigin.toD):=by
 intro w fp v hS hwt;obtain⟨A,c,rfl,hl,hc⟩:=hS.ak;rw[i_]at hwt;obtain⟨i0,hi0,hz0,hz1,hz2⟩:=info_parts BX;have hmk:∀W:World,(o_ 109 (.int .i64 (l.length:Int)) (.int .i64 (l.length:Int))).run Try.prog W= .ok (.slice (some ⟨W.heap.size,0,none⟩) l.length l.length) (W.alloc (.cells (madeCells (q_ (.agg #[.int .i64 0,.int .i64 0])) (l.length*2)) 126)):=fun W=>by
  have h:=run_make (P:=Try.prog) W 109 126 i0 _ Try.underlying109 hi0 hz0 .i64 .i64 (l.length:Int) (l.length:Int) (by omega) (r_ _) (by rw[hz2];omega) (by omega);rw[hz1]at h;simpa using h
 clear hl hc hi0 hz0 hz1 hz2
 go_enter Try.func104,Try.ntmps104
 go_wp2_with fail
 go_loopw [4] (fun iv wr=>∃(k:Nat) (xs:List Value) (fs:List Nat),k≤l.length∧iv= .int .i64 k∧Row wr w.heap.size 126 xs∧xs.length=l.length*2∧Rs wr ((l.map GOrigin.toD).take k) fs (xs.take (k*2))∧aX wr (w.heap.size+1) fs∧Below w.heap.size w wr) (fun iv _=>l.length - (intOf iv).toNat)
 case atStart=>
  refine⟨0,_,[],by omega,rfl,Row.new _ _ _,by simp[madeCells],by simp[Rs],aX.nil,(a_ _ _).alloc (c_ _) _⟩
 case round=>
  obtain⟨k,xs,fs,hk,rfl,hrow,hxl,hrs,hfr,hb⟩:=hrel;by_cases hlt:k<l.length
  ·have hd:(l.map GOrigin.toD)[k]? =some (GOrigin.toD l[k]):=by rw[e_,b_ hlt];rfl
   obtain⟨b,o,fi,ci,rfl,hbb,hbf,hri,hfi,hat⟩:=hS.elem GOrigin.szs hd;have hri':=hri;have hxk:=d_ (show k*2+2≤xs.length by rw[hxl];omega);have hxl':=d_ hxl;have hlw:=hrow.lt;obtain⟨rfl,rfl⟩:=GOrigin.opened.1 hri;have q0:=(hb.cell (p:=⟨b,o+k*2,none⟩) hbb).trans (hat.head);have q1:=(hb.cell (p:=⟨b,o+k*2+1,none⟩) hbb).trans (hat.nth 1 rfl);clear hat hd hxl
   go_wp2_with fail
   refine(hE _ (f_ hlt) _ _ _ (hri'.same (fun x hx=>hb.block x (hS.lt x (hfi x hx))) hb.size) (by have:=D.jW (p_ (f:=GOrigin.toD) (f_ hlt));omega)).mono ?_;rintro e w1 ⟨fn,cs,rfl,hT,hF,hb1⟩;have hTL:=hT.lt;have hT':=hT;obtain⟨rfl,rfl⟩:=GOrigin.opened.1 hT;have hrow1:=hrow.below hb1;have G1:Below w.heap.size w w1:=hb.trans (hb1.mono hb.size);have k0:=hrow1.at_ (i:=k*2) (by have:=hxk.out;omega)
   have k1:=hrow1.at_ (i:=k*2+1) (by have:=hxk.out;omega)
   have hn1:=hrow1.frozen
   go_wp2_with fail
   go_roundw
   case rel=>
    have hxk:=hxk.out;have hxl:=hxl'.out;clear k0 k1 hn1;have hne:w.heap.size∉fs:=fun h=>by have:=(hfr.2 _ h).1;omega
    have hnn:w.heap.size∉([]:List Nat):=fun h=>by have:=(hF.2 _ h).1;omega
    have hr:=(hrs.below hb1).setCells hne (k*2) [.int .i64 l[k].cell,.int .i64 l[k].row];have hr2:=hT'.setCells hnn (k*2) [.int .i64 l[k].cell,.int .i64 l[k].row];refine⟨k+1,sets xs (k*2) [.int .i64 l[k].cell,.int .i64 l[k].row],fs++([]:List Nat),by omega,by go_num,hrow1.sets [.int .i64 l[k].cell,.int .i64 l[k].row] (k*2),by rw[jB];exact hxl, ?_, ?_, ?_⟩
    ·have e1:(sets xs (k*2) [.int .i64 l[k].cell,.int .i64 l[k].row]).take (k*2+2)=xs.take (k*2)++ [.int .i64 l[k].cell,.int .i64 l[k].row]:=jJ [.int .i64 l[k].cell,.int .i64 l[k].row] xs (k*2) hxk;rw[show(k+1)*2=k*2+2 by omega,e1,h_ (by simpa using hlt),j_];exact Rs.append (Rs.one hr2) hr
    ·exact aX.append (mid:=wr.heap.size) ((hfr.below hrs.lt hb1).setCells hne (k*2) [.int .i64 l[k].cell,.int .i64 l[k].row]) hrs.lt (hF.setCells hnn (k*2) [.int .i64 l[k].cell,.int .i64 l[k].row]) (by omega)
    ·exact iH (c_ _) [.int .i64 l[k].cell,.int .i64 l[k].row] G1 (k*2)
   case measure=>simp[intOf];omega
  ·have hk':=d_ (show k=l.length by omega);have hxl':=d_ hxl;clear hxl
   go_wp2_with fail
   go_ret
   have hxl:=hxl'.out;have hk:=hk'.out;subst hk;rw[g_ (by simp),g_ (by omega)]at hrs;exact⟨_,_,rfl,Sl.pG hrow hrs (by simp) (by unfold maxLen;omega),aX.lZ hrow (c_ _) hfr,hb⟩
theorem GOrigin.ku(x:GOrigin):iJ Try.prog 106 x.toD:=GOrigin.iy x
theorem BG(l:List GOrigin):fV Try.prog 104 (l.map GOrigin.toD):=wE l fun x _=>x.ku
theorem GRow.iy(x:GRow)(hE0:fV Try.prog 103 (x.cells.map li))(hE1:fV Try.prog 104 (x.src.map GOrigin.toD)):iJ Try.prog 95 x.toD:=by
 intro w fp cs hR hwt;rw[GRow.gZ]at hwt;obtain⟨v0,v1,f0,f1,rfl,rfl,hS0,hS1⟩:=GRow.opened.1 hR;obtain⟨A0,c0,rfl,hq0a,hq0b⟩:=hS0.ak;obtain⟨A1,c1,rfl,hq1a,hq1b⟩:=hS1.ak;clear hq0a hq0b;clear hq1a hq1b;clear hR
 go_enter Try.func95,Try.ntmps95
 go_wp2_with fail
 have hP0:∀wx:World,Below w.heap.size w wx→Calls Try.prog 103 _ wx (kY _ wx):=fun wx hwx=>hE0 wx _ _ (hS0.below hwx) (by omega)
 refine(hP0 _ ?_).mono ?_
 ·exact(((a_ _ _).alloc (by simp) _).alloc (by simp;try omega) _).alloc (by simp;try omega) _
 rintro e w1 ⟨g0,v,rfl,hT0,hF0,hb1⟩;have hL0:=hT0.lt;have hX0:=hF0.past (lo:=w.heap.size+1) (hi:=w.heap.size+3) (by simp);replace hF0:=hF0.mono (base':=w.heap.size) (by simp;omega);obtain⟨B0,d0,rfl,hq0a,hq0b⟩:=hT0.ak;clear hq0a hq0b;obtain⟨hr10,hr11,hr12,hz1,G1⟩:=CX hb1;clear hb1;have k10:=hr10.cell;have k11:=hr11.cell;have k12:=hr12.cell;have n10:=hr10.frozen;have n11:=hr11.frozen;have n12:=hr12.frozen
 go_wp2_with fail
 have hP1:∀wx:World,Below w.heap.size w wx→Calls Try.prog 104 _ wx (kY _ wx):=fun wx hwx=>hE1 wx _ _ (hS1.below hwx) (by omega)
 refine(hP1 _ ?_).mono ?_
 ·exact(G1.setCell (by simp;try omega) _)
 rintro e w2 ⟨g1,v,rfl,hT1,hF1,hb2⟩;have hL1:=hT1.lt;have hX1:=hF1.past (lo:=w.heap.size+1) (hi:=w.heap.size+3) (by simp;omega);replace hF1:=hF1.mono (base':=w1.heap.size) (by simp);obtain⟨B1,d1,rfl,hq1a,hq1b⟩:=hT1.ak;clear hq1a hq1b;have hr20:=((hr10.far (by simp;try omega) _)).below hb2;have hr21:=((hr11.far (by simp;try omega) _)).below hb2;have hr22:=((hr12.set _ _)).below hb2;have hK2:Kept (w.heap.size+1) (w.heap.size+3) w1 w2:=by
  refine Kept.below (b:=_) ?_ hb2
  repeat (first|(with_reducible exact Kept.refl _ _ _)|((with_reducible refine Kept.setCell ?_ ?_ ?_ _);rotate_left;(simp;try omega);(simp;try omega)))
 have hz2:w.heap.size+3≤w2.heap.size:=l_ hz1 hK2.size;have G2:Below w.heap.size w w2:=Kept.toBelow G1 hK2 (by omega) (by omega);clear hb2;have k20:=hr20.cell;have k21:=hr21.cell;have k22:=hr22.cell;have n20:=hr20.frozen;have n21:=hr21.frozen;have n22:=hr22.frozen
 go_wp2_with fail
 have hend:=(GRow.opened (w:=w2) (x:=x)).2 ⟨_,_,_,_,rfl,rfl,hT0.kept hK2 hX0,hT1⟩;have hfree:=(aX.append (mid:=w1.heap.size) ((hF0.kept hL0 hK2 hX0).mono (base':=w.heap.size) (by omega)) hL0 hF1 (by omega))
 have hpast:=(nX hX0 hX1)
 refine bodyPost_ret (v:= .agg #[.slice B0 x.cells.length d0,.slice B1 x.src.length d1]) (by simp[results,Try.results95,go_sem,k20,k21,k22]) rfl (mP.fin (lo:=w.heap.size+1) (hi:=w.heap.size+3) (b:=w2) ?_ hend hfree hpast G2 (by omega))
 repeat (first|(with_reducible exact Kept.refl _ _ _)|((with_reducible refine Kept.setCell ?_ ?_ ?_ _);rotate_left;(simp;try omega);(simp;try omega)))
theorem Jm :(Try.prog.info? 111).map (fun i=>(i.zero,i.size,i.bytes))=some (some (.agg #[.slice none 0 0,.slice none 0 0]),2,48):=by kernel_rfl
theorem Bq(l:List GRow)(hE:∀x∈l,iJ Try.prog 95 x.toD):fV Try.prog 84 (l.map GRow.toD):=by
 intro w fp v hS hwt;obtain⟨A,c,rfl,hl,hc⟩:=hS.ak;rw[i_]at hwt;obtain⟨i0,hi0,hz0,hz1,hz2⟩:=info_parts Jm;have hmk:∀W:World,(o_ 39 (.int .i64 (l.length:Int)) (.int .i64 (l.length:Int))).run Try.prog W= .ok (.slice (some ⟨W.heap.size,0,none⟩) l.length l.length) (W.alloc (.cells (madeCells (q_ (.agg #[.slice none 0 0,.slice none 0 0])) (l.length*2)) 111)):=fun W=>by
  have h:=run_make (P:=Try.prog) W 39 111 i0 _ Try.underlying39 hi0 hz0 .i64 .i64 (l.length:Int) (l.length:Int) (by omega) (r_ _) (by rw[hz2];omega) (by omega);rw[hz1]at h;simpa using h
 clear hl hc hi0 hz0 hz1 hz2
 go_enter Try.func84,Try.ntmps84
 go_wp2_with fail
 go_loopw [4] (fun iv wr=>∃(k:Nat) (xs:List Value) (fs:List Nat),k≤l.length∧iv= .int .i64 k∧Row wr w.heap.size 111 xs∧xs.length=l.length*2∧Rs wr ((l.map GRow.toD).take k) fs (xs.take (k*2))∧aX wr (w.heap.size+1) fs∧Below w.heap.size w wr) (fun iv _=>l.length - (intOf iv).toNat)
 case atStart=>
  refine⟨0,_,[],by omega,rfl,Row.new _ _ _,by simp[madeCells],by simp[Rs],aX.nil,(a_ _ _).alloc (c_ _) _⟩
 case round=>
  obtain⟨k,xs,fs,hk,rfl,hrow,hxl,hrs,hfr,hb⟩:=hrel;by_cases hlt:k<l.length
  ·have hd:(l.map GRow.toD)[k]? =some (GRow.toD l[k]):=by rw[e_,b_ hlt];rfl
   obtain⟨b,o,fi,ci,rfl,hbb,hbf,hri,hfi,hat⟩:=hS.elem GRow.szs hd;have hri':=hri;have hxk:=d_ (show k*2+2≤xs.length by rw[hxl];omega);have hxl':=d_ hxl;have hlw:=hrow.lt;obtain⟨v0,v1,g0,g1,rfl,rfl,hV0,hV1⟩:=GRow.opened.1 hri;obtain⟨A0,c0,rfl,hq0a,hq0b⟩:=hV0.ak;obtain⟨A1,c1,rfl,hq1a,hq1b⟩:=hV1.ak;clear hq0a hq0b hV0;clear hq1a hq1b hV1;have q0:=(hb.cell (p:=⟨b,o+k*2,none⟩) hbb).trans (hat.head);have q1:=(hb.cell (p:=⟨b,o+k*2+1,none⟩) hbb).trans (hat.nth 1 rfl);clear hat hd hxl
   go_wp2_with fail
   refine(hE _ (f_ hlt) _ _ _ (hri'.same (fun x hx=>hb.block x (hS.lt x (hfi x hx))) hb.size) (by have:=D.jW (p_ (f:=GRow.toD) (f_ hlt));omega)).mono ?_;rintro e w1 ⟨fn,cs,rfl,hT,hF,hb1⟩;have hTL:=hT.lt;have hT':=hT;obtain⟨u0,u1,t0,t1,rfl,rfl,hV0,hV1⟩:=GRow.opened.1 hT;obtain⟨B0,d0,rfl,hq0a,hq0b⟩:=hV0.ak;obtain⟨B1,d1,rfl,hq1a,hq1b⟩:=hV1.ak;clear hq0a hq0b hV0;clear hq1a hq1b hV1;have hrow1:=hrow.below hb1;have G1:Below w.heap.size w w1:=hb.trans (hb1.mono hb.size);have k0:=hrow1.at_ (i:=k*2) (by have:=hxk.out;omega)
   have k1:=hrow1.at_ (i:=k*2+1) (by have:=hxk.out;omega)
   have hn1:=hrow1.frozen
   go_wp2_with fail
   go_roundw
   case rel=>
    have hxk:=hxk.out;have hxl:=hxl'.out;clear k0 k1 hn1;have hne:w.heap.size∉fs:=fun h=>by have:=(hfr.2 _ h).1;omega
    have hnn:w.heap.size∉(t0++t1):=fun h=>by have:=(hF.2 _ h).1;omega
    have hr:=(hrs.below hb1).setCells hne (k*2) [.slice B0 l[k].cells.length d0,.slice B1 l[k].src.length d1];have hr2:=hT'.setCells hnn (k*2) [.slice B0 l[k].cells.length d0,.slice B1 l[k].src.length d1];refine⟨k+1,sets xs (k*2) [.slice B0 l[k].cells.length d0,.slice B1 l[k].src.length d1],fs++(t0++t1),by omega,by go_num,hrow1.sets [.slice B0 l[k].cells.length d0,.slice B1 l[k].src.length d1] (k*2),by rw[jB];exact hxl, ?_, ?_, ?_⟩
    ·have e1:(sets xs (k*2) [.slice B0 l[k].cells.length d0,.slice B1 l[k].src.length d1]).take (k*2+2)=xs.take (k*2)++ [.slice B0 l[k].cells.length d0,.slice B1 l[k].src.length d1]:=jJ [.slice B0 l[k].cells.length d0,.slice B1 l[k].src.length d1] xs (k*2) hxk;rw[show(k+1)*2=k*2+2 by omega,e1,h_ (by simpa using hlt),j_];exact Rs.append (Rs.one hr2) hr
    ·exact aX.append (mid:=wr.heap.size) ((hfr.below hrs.lt hb1).setCells hne (k*2) [.slice B0 l[k].cells.length d0,.slice B1 l[k].src.length d1]) hrs.lt (hF.setCells hnn (k*2) [.slice B0 l[k].cells.length d0,.slice B1 l[k].src.length d1]) (by omega)
    ·exact iH (c_ _) [.slice B0 l[k].cells.length d0,.slice B1 l[k].src.length d1] G1 (k*2)
   case measure=>simp[intOf];omega
  ·have hk':=d_ (show k=l.length by omega);have hxl':=d_ hxl;clear hxl
   go_wp2_with fail
   go_ret
   have hxl:=hxl'.out;have hk:=hk'.out;subst hk;rw[g_ (by simp),g_ (by omega)]at hrs;exact⟨_,_,rfl,Sl.pG hrow hrs (by simp) (by unfold maxLen;omega),aX.lZ hrow (c_ _) hfr,hb⟩
theorem GRow.ku(x:GRow):iJ Try.prog 95 x.toD:=GRow.iy x (II _) (BG _)
theorem Iy(l:List GRow):fV Try.prog 84 (l.map GRow.toD):=Bq l fun x _=>x.ku
theorem GVal.iy(x:GVal)(hE0:fV Try.prog 20 (x.list.map GVal.toD))(hE1:fV Try.prog 83 (x.cols.map ls))(hE2:fV Try.prog 84 (x.rows.map GRow.toD)):iJ Try.prog 56 x.toD:=by
 intro w fp cs hR hwt;rw[GVal.gZ]at hwt;obtain⟨v0,v1,v2,f0,f1,f2,rfl,rfl,hS0,hS1,hS2⟩:=GVal.opened.1 hR;obtain⟨A0,c0,rfl,hq0a,hq0b⟩:=hS0.ak;obtain⟨A1,c1,rfl,hq1a,hq1b⟩:=hS1.ak;obtain⟨A2,c2,rfl,hq2a,hq2b⟩:=hS2.ak;clear hq0a hq0b;clear hq1a hq1b;clear hq2a hq2b;clear hR
 go_enter Try.func56,Try.ntmps56
 go_wp2_with fail
 have hP0:∀wx:World,Below w.heap.size w wx→Calls Try.prog 20 _ wx (kY _ wx):=fun wx hwx=>hE0 wx _ _ (hS0.below hwx) (by omega)
 refine(hP0 _ ?_).mono ?_
 ·exact(((a_ _ _).alloc (by simp) _).alloc (by simp;try omega) _).alloc (by simp;try omega) _
 rintro e w1 ⟨g0,v,rfl,hT0,hF0,hb1⟩;have hL0:=hT0.lt;have hX0:=hF0.past (lo:=w.heap.size+1) (hi:=w.heap.size+3) (by simp);replace hF0:=hF0.mono (base':=w.heap.size) (by simp;omega);obtain⟨B0,d0,rfl,hq0a,hq0b⟩:=hT0.ak;clear hq0a hq0b;obtain⟨hr10,hr11,hr12,hz1,G1⟩:=CX hb1;clear hb1;have k10:=hr10.cell;have k11:=hr11.cell;have k12:=hr12.cell;have n10:=hr10.frozen;have n11:=hr11.frozen;have n12:=hr12.frozen
 go_wp2_with fail
 have hP1:∀wx:World,Below w.heap.size w wx→Calls Try.prog 83 _ wx (kY _ wx):=fun wx hwx=>hE1 wx _ _ (hS1.below hwx) (by omega)
 refine(hP1 _ ?_).mono ?_
 ·exact(G1.setCell (by simp;try omega) _)
 rintro e w2 ⟨g1,v,rfl,hT1,hF1,hb2⟩;have hL1:=hT1.lt;have hX1:=hF1.past (lo:=w.heap.size+1) (hi:=w.heap.size+3) (by simp;omega);replace hF1:=hF1.mono (base':=w1.heap.size) (by simp);obtain⟨B1,d1,rfl,hq1a,hq1b⟩:=hT1.ak;clear hq1a hq1b;have hr20:=((hr10.far (by simp;try omega) _)).below hb2;have hr21:=((hr11.far (by simp;try omega) _)).below hb2;have hr22:=((hr12.set _ _)).below hb2;have hK2:Kept (w.heap.size+1) (w.heap.size+3) w1 w2:=by
  refine Kept.below (b:=_) ?_ hb2
  repeat (first|(with_reducible exact Kept.refl _ _ _)|((with_reducible refine Kept.setCell ?_ ?_ ?_ _);rotate_left;(simp;try omega);(simp;try omega)))
 have hz2:w.heap.size+3≤w2.heap.size:=l_ hz1 hK2.size;have G2:Below w.heap.size w w2:=Kept.toBelow G1 hK2 (by omega) (by omega);clear hb2;have k20:=hr20.cell;have k21:=hr21.cell;have k22:=hr22.cell;have n20:=hr20.frozen;have n21:=hr21.frozen;have n22:=hr22.frozen
 go_wp2_with fail
 have hP2:∀wx:World,Below w.heap.size w wx→Calls Try.prog 84 _ wx (kY _ wx):=fun wx hwx=>hE2 wx _ _ (hS2.below hwx) (by omega)
 refine(hP2 _ ?_).mono ?_
 ·exact(G2.setCell (by simp;try omega) _)
 rintro e w3 ⟨g2,v,rfl,hT2,hF2,hb3⟩;have hL2:=hT2.lt;have hX2:=hF2.past (lo:=w.heap.size+1) (hi:=w.heap.size+3) (by simp;omega);replace hF2:=hF2.mono (base':=w2.heap.size) (by simp);obtain⟨B2,d2,rfl,hq2a,hq2b⟩:=hT2.ak;clear hq2a hq2b;have hr30:=((hr20.far (by simp;try omega) _)).below hb3;have hr31:=((hr21.far (by simp;try omega) _)).below hb3;have hr32:=((hr22.set _ _)).below hb3;have hK3:Kept (w.heap.size+1) (w.heap.size+3) w2 w3:=by
  refine Kept.below (b:=_) ?_ hb3
  repeat (first|(with_reducible exact Kept.refl _ _ _)|((with_reducible refine Kept.setCell ?_ ?_ ?_ _);rotate_left;(simp;try omega);(simp;try omega)))
 have hz3:w.heap.size+3≤w3.heap.size:=l_ hz2 hK3.size;have G3:Below w.heap.size w w3:=Kept.toBelow G2 hK3 (by omega) (by omega);clear hb3;have k30:=hr30.cell;have k31:=hr31.cell;have k32:=hr32.cell;have n30:=hr30.frozen;have n31:=hr31.frozen;have n32:=hr32.frozen
 go_wp2_with fail
 have hend:=(GVal.opened (w:=w3) (x:=x)).2 ⟨_,_,_,_,_,_,rfl,rfl,hT0.kept (hK2.trans hK3) hX0,hT1.kept hK3 hX1,hT2⟩;have hfree:=(aX.append (mid:=w1.heap.size) ((hF0.kept hL0 (hK2.trans hK3) hX0).mono (base':=w.heap.size) (by omega)) hL0 (aX.append (mid:=w2.heap.size) (hF1.kept hL1 hK3 hX1) hL1 hF2 (by have:=hK2.size;omega)) (by omega))
 have hpast:=(nX hX0 (nX hX1 hX2))
 refine bodyPost_ret (v:= .agg #[.int .i64 x.kind,.int .i64 x.n,.int .i64 x.step,.string x.text,.slice B0 x.list.length d0,.slice B1 x.cols.length d1,.slice B2 x.rows.length d2]) (by simp[results,Try.results56,go_sem,k30,k31,k32]) rfl (mP.fin (lo:=w.heap.size+1) (hi:=w.heap.size+3) (b:=w3) ?_ hend hfree hpast G3 (by omega))
 repeat (first|(with_reducible exact Kept.refl _ _ _)|((with_reducible refine Kept.setCell ?_ ?_ ?_ _);rotate_left;(simp;try omega);(simp;try omega)))
theorem Ey :(Try.prog.info? 41).map (fun i=>(i.zero,i.size,i.bytes))=some (some (.agg #[.int .i64 0,.int .i64 0,.int .i64 0,.string ⟨#[]⟩,.slice none 0 0,.slice none 0 0,.slice none 0 0]),7,112):=by kernel_rfl
theorem xP(l:List GVal)(hE:∀x∈l,iJ Try.prog 56 x.toD):fV Try.prog 20 (l.map GVal.toD):=by
 intro w fp v hS hwt;obtain⟨A,c,rfl,hl,hc⟩:=hS.ak;rw[i_]at hwt;obtain⟨i0,hi0,hz0,hz1,hz2⟩:=info_parts Ey;have hmk:∀W:World,(o_ 37 (.int .i64 (l.length:Int)) (.int .i64 (l.length:Int))).run Try.prog W= .ok (.slice (some ⟨W.heap.size,0,none⟩) l.length l.length) (W.alloc (.cells (madeCells (q_ (.agg #[.int .i64 0,.int .i64 0,.int .i64 0,.string ⟨#[]⟩,.slice none 0 0,.slice none 0 0,.slice none 0 0])) (l.length*7)) 41)):=fun W=>by
  have h:=run_make (P:=Try.prog) W 37 41 i0 _ Try.underlying37 hi0 hz0 .i64 .i64 (l.length:Int) (l.length:Int) (by omega) (r_ _) (by rw[hz2];omega) (by omega);rw[hz1]at h;simpa using h
 clear hl hc hi0 hz0 hz1 hz2
 go_enter Try.func20,Try.ntmps20
 go_wp2_with fail
 go_loopw [4] (fun iv wr=>∃(k:Nat) (xs:List Value) (fs:List Nat),k≤l.length∧iv= .int .i64 k∧Row wr w.heap.size 41 xs∧xs.length=l.length*7∧Rs wr ((l.map GVal.toD).take k) fs (xs.take (k*7))∧aX wr (w.heap.size+1) fs∧Below w.heap.size w wr) (fun iv _=>l.length - (intOf iv).toNat)
 case atStart=>
  refine⟨0,_,[],by omega,rfl,Row.new _ _ _,by simp[madeCells],by simp[Rs],aX.nil,(a_ _ _).alloc (c_ _) _⟩
 case round=>
  obtain⟨k,xs,fs,hk,rfl,hrow,hxl,hrs,hfr,hb⟩:=hrel;by_cases hlt:k<l.length
  ·have hd:(l.map GVal.toD)[k]? =some (GVal.toD l[k]):=by rw[e_,b_ hlt];rfl
   obtain⟨b,o,fi,ci,rfl,hbb,hbf,hri,hfi,hat⟩:=hS.elem GVal.szs hd;have hri':=hri;have hxk:=d_ (show k*7+7≤xs.length by rw[hxl];omega);have hxl':=d_ hxl;have hlw:=hrow.lt;obtain⟨v0,v1,v2,g0,g1,g2,rfl,rfl,hV0,hV1,hV2⟩:=GVal.opened.1 hri;obtain⟨A0,c0,rfl,hq0a,hq0b⟩:=hV0.ak;obtain⟨A1,c1,rfl,hq1a,hq1b⟩:=hV1.ak;obtain⟨A2,c2,rfl,hq2a,hq2b⟩:=hV2.ak;clear hq0a hq0b hV0;clear hq1a hq1b hV1;clear hq2a hq2b hV2;have q0:=(hb.cell (p:=⟨b,o+k*7,none⟩) hbb).trans (hat.head);have q1:=(hb.cell (p:=⟨b,o+k*7+1,none⟩) hbb).trans (hat.nth 1 rfl);have q2:=(hb.cell (p:=⟨b,o+k*7+2,none⟩) hbb).trans (hat.nth 2 rfl);have q3:=(hb.cell (p:=⟨b,o+k*7+3,none⟩) hbb).trans (hat.nth 3 rfl);have q4:=(hb.cell (p:=⟨b,o+k*7+4,none⟩) hbb).trans (hat.nth 4 rfl);have q5:=(hb.cell (p:=⟨b,o+k*7+5,none⟩) hbb).trans (hat.nth 5 rfl);have q6:=(hb.cell (p:=⟨b,o+k*7+6,none⟩) hbb).trans (hat.nth 6 rfl);clear hat hd hxl
   go_wp2_with fail
   refine(hE _ (f_ hlt) _ _ _ (hri'.same (fun x hx=>hb.block x (hS.lt x (hfi x hx))) hb.size) (by have:=D.jW (p_ (f:=GVal.toD) (f_ hlt));omega)).mono ?_;rintro e w1 ⟨fn,cs,rfl,hT,hF,hb1⟩;have hTL:=hT.lt;have hT':=hT;obtain⟨u0,u1,u2,t0,t1,t2,rfl,rfl,hV0,hV1,hV2⟩:=GVal.opened.1 hT;obtain⟨B0,d0,rfl,hq0a,hq0b⟩:=hV0.ak;obtain⟨B1,d1,rfl,hq1a,hq1b⟩:=hV1.ak;obtain⟨B2,d2,rfl,hq2a,hq2b⟩:=hV2.ak;clear hq0a hq0b hV0;clear hq1a hq1b hV1;clear hq2a hq2b hV2;have hrow1:=hrow.below hb1;have G1:Below w.heap.size w w1:=hb.trans (hb1.mono hb.size);have k0:=hrow1.at_ (i:=k*7) (by have:=hxk.out;omega)
   have k1:=hrow1.at_ (i:=k*7+1) (by have:=hxk.out;omega)
   have k2:=hrow1.at_ (i:=k*7+2) (by have:=hxk.out;omega)
   have k3:=hrow1.at_ (i:=k*7+3) (by have:=hxk.out;omega)
   have k4:=hrow1.at_ (i:=k*7+4) (by have:=hxk.out;omega)
   have k5:=hrow1.at_ (i:=k*7+5) (by have:=hxk.out;omega)
   have k6:=hrow1.at_ (i:=k*7+6) (by have:=hxk.out;omega)
   have hn1:=hrow1.frozen
   go_wp2_with fail
   go_roundw
   case rel=>
    have hxk:=hxk.out;have hxl:=hxl'.out;clear k0 k1 k2 k3 k4 k5 k6 hn1;have hne:w.heap.size∉fs:=fun h=>by have:=(hfr.2 _ h).1;omega
    have hnn:w.heap.size∉(t0++(t1++t2)):=fun h=>by have:=(hF.2 _ h).1;omega
    have hr:=(hrs.below hb1).setCells hne (k*7) [.int .i64 l[k].kind,.int .i64 l[k].n,.int .i64 l[k].step,.string l[k].text,.slice B0 l[k].list.length d0,.slice B1 l[k].cols.length d1,.slice B2 l[k].rows.length d2];have hr2:=hT'.setCells hnn (k*7) [.int .i64 l[k].kind,.int .i64 l[k].n,.int .i64 l[k].step,.string l[k].text,.slice B0 l[k].list.length d0,.slice B1 l[k].cols.length d1,.slice B2 l[k].rows.length d2];refine⟨k+1,sets xs (k*7) [.int .i64 l[k].kind,.int .i64 l[k].n,.int .i64 l[k].step,.string l[k].text,.slice B0 l[k].list.length d0,.slice B1 l[k].cols.length d1,.slice B2 l[k].rows.length d2],fs++(t0++(t1++t2)),by omega,by go_num,hrow1.sets [.int .i64 l[k].kind,.int .i64 l[k].n,.int .i64 l[k].step,.string l[k].text,.slice B0 l[k].list.length d0,.slice B1 l[k].cols.length d1,.slice B2 l[k].rows.length d2] (k*7),by rw[jB];exact hxl, ?_, ?_, ?_⟩
    ·have e1:(sets xs (k*7) [.int .i64 l[k].kind,.int .i64 l[k].n,.int .i64 l[k].step,.string l[k].text,.slice B0 l[k].list.length d0,.slice B1 l[k].cols.length d1,.slice B2 l[k].rows.length d2]).take (k*7+7)=xs.take (k*7)++ [.int .i64 l[k].kind,.int .i64 l[k].n,.int .i64 l[k].step,.string l[k].text,.slice B0 l[k].list.length d0,.slice B1 l[k].cols.length d1,.slice B2 l[k].rows.length d2]:=jJ [.int .i64 l[k].kind,.int .i64 l[k].n,.int .i64 l[k].step,.string l[k].text,.slice B0 l[k].list.length d0,.slice B1 l[k].cols.length d1,.slice B2 l[k].rows.length d2] xs (k*7) hxk;rw[show(k+1)*7=k*7+7 by omega,e1,h_ (by simpa using hlt),j_];exact Rs.append (Rs.one hr2) hr
    ·exact aX.append (mid:=wr.heap.size) ((hfr.below hrs.lt hb1).setCells hne (k*7) [.int .i64 l[k].kind,.int .i64 l[k].n,.int .i64 l[k].step,.string l[k].text,.slice B0 l[k].list.length d0,.slice B1 l[k].cols.length d1,.slice B2 l[k].rows.length d2]) hrs.lt (hF.setCells hnn (k*7) [.int .i64 l[k].kind,.int .i64 l[k].n,.int .i64 l[k].step,.string l[k].text,.slice B0 l[k].list.length d0,.slice B1 l[k].cols.length d1,.slice B2 l[k].rows.length d2]) (by omega)
    ·exact iH (c_ _) [.int .i64 l[k].kind,.int .i64 l[k].n,.int .i64 l[k].step,.string l[k].text,.slice B0 l[k].list.length d0,.slice B1 l[k].cols.length d1,.slice B2 l[k].rows.length d2] G1 (k*7)
   case measure=>simp[intOf];omega
  ·have hk':=d_ (show k=l.length by omega);have hxl':=d_ hxl;clear hxl
   go_wp2_with fail
   go_ret
   have hxl:=hxl'.out;have hk:=hk'.out;subst hk;rw[g_ (by simp),g_ (by omega)]at hrs;exact⟨_,_,rfl,Sl.pG hrow hrs (by simp) (by unfold maxLen;omega),aX.lZ hrow (c_ _) hfr,hb⟩
theorem GVal.ku(x:GVal):iJ Try.prog 56 x.toD:=GVal.iy x (xP _ fun y hy=>GVal.ku y) (Bj _) (Iy _)
termination_by s_ x
decreasing_by exact GVal.lt_of_mem hy
theorem GExpr.iy(x:GExpr)(hE0:fV Try.prog 94 (x.args.map GExpr.toD)):iJ Try.prog 82 x.toD:=by
 intro w fp cs hR hwt;rw[GExpr.gZ]at hwt;obtain⟨v0,f0,rfl,rfl,hS0⟩:=GExpr.opened.1 hR;obtain⟨A0,c0,rfl,hq0a,hq0b⟩:=hS0.ak;clear hq0a hq0b;clear hR
 go_enter Try.func82,Try.ntmps82
 go_wp2_with fail
 have hP0:∀wx:World,Below w.heap.size w wx→Calls Try.prog 94 _ wx (kY _ wx):=fun wx hwx=>hE0 wx _ _ (hS0.below hwx) (by omega)
 refine(hP0 _ ?_).mono ?_
 ·exact(((a_ _ _).alloc (by simp) _).alloc (by simp;try omega) _).alloc (by simp;try omega) _
 rintro e w1 ⟨g0,v,rfl,hT0,hF0,hb1⟩;have hL0:=hT0.lt;have hX0:=hF0.past (lo:=w.heap.size+1) (hi:=w.heap.size+3) (by simp);replace hF0:=hF0.mono (base':=w.heap.size) (by simp;omega);obtain⟨B0,d0,rfl,hq0a,hq0b⟩:=hT0.ak;clear hq0a hq0b;obtain⟨hr10,hr11,hr12,hz1,G1⟩:=CX hb1;clear hb1;have k10:=hr10.cell;have k11:=hr11.cell;have k12:=hr12.cell;have n10:=hr10.frozen;have n11:=hr11.frozen;have n12:=hr12.frozen
 go_wp2_with fail
 have hend:=(GExpr.opened (w:=w1) (x:=x)).2 ⟨_,_,rfl,rfl,hT0⟩;have hfree:=(hF0.mono (base':=w.heap.size) (by omega))
 have hpast:=hX0;refine bodyPost_ret (v:= .agg #[.int .i64 x.kind,.int .i64 x.n,.string x.text,.slice B0 x.args.length d0]) (by simp[results,Try.results82,go_sem,k10,k11,k12]) rfl (mP.fin (lo:=w.heap.size+1) (hi:=w.heap.size+3) (b:=w1) ?_ hend hfree hpast G1 (by omega))
 repeat (first|(with_reducible exact Kept.refl _ _ _)|((with_reducible refine Kept.setCell ?_ ?_ ?_ _);rotate_left;(simp;try omega);(simp;try omega)))
theorem Gy :(Try.prog.info? 90).map (fun i=>(i.zero,i.size,i.bytes))=some (some (.agg #[.int .i64 0,.int .i64 0,.string ⟨#[]⟩,.slice none 0 0]),4,56):=by kernel_rfl
theorem zq(l:List GExpr)(hE:∀x∈l,iJ Try.prog 82 x.toD):fV Try.prog 94 (l.map GExpr.toD):=by
 intro w fp v hS hwt;obtain⟨A,c,rfl,hl,hc⟩:=hS.ak;rw[i_]at hwt;obtain⟨i0,hi0,hz0,hz1,hz2⟩:=info_parts Gy;have hmk:∀W:World,(o_ 88 (.int .i64 (l.length:Int)) (.int .i64 (l.length:Int))).run Try.prog W= .ok (.slice (some ⟨W.heap.size,0,none⟩) l.length l.length) (W.alloc (.cells (madeCells (q_ (.agg #[.int .i64 0,.int .i64 0,.string ⟨#[]⟩,.slice none 0 0])) (l.length*4)) 90)):=fun W=>by
  have h:=run_make (P:=Try.prog) W 88 90 i0 _ Try.underlying88 hi0 hz0 .i64 .i64 (l.length:Int) (l.length:Int) (by omega) (r_ _) (by rw[hz2];omega) (by omega);rw[hz1]at h;simpa using h
 clear hl hc hi0 hz0 hz1 hz2
 go_enter Try.func94,Try.ntmps94
 go_wp2_with fail
 go_loopw [4] (fun iv wr=>∃(k:Nat) (xs:List Value) (fs:List Nat),k≤l.length∧iv= .int .i64 k∧Row wr w.heap.size 90 xs∧xs.length=l.length*4∧Rs wr ((l.map GExpr.toD).take k) fs (xs.take (k*4))∧aX wr (w.heap.size+1) fs∧Below w.heap.size w wr) (fun iv _=>l.length - (intOf iv).toNat)
 case atStart=>
  refine⟨0,_,[],by omega,rfl,Row.new _ _ _,by simp[madeCells],by simp[Rs],aX.nil,(a_ _ _).alloc (c_ _) _⟩
 case round=>
  obtain⟨k,xs,fs,hk,rfl,hrow,hxl,hrs,hfr,hb⟩:=hrel;by_cases hlt:k<l.length
  ·have hd:(l.map GExpr.toD)[k]? =some (GExpr.toD l[k]):=by rw[e_,b_ hlt];rfl
   obtain⟨b,o,fi,ci,rfl,hbb,hbf,hri,hfi,hat⟩:=hS.elem GExpr.szs hd;have hri':=hri;have hxk:=d_ (show k*4+4≤xs.length by rw[hxl];omega);have hxl':=d_ hxl;have hlw:=hrow.lt;obtain⟨v0,g0,rfl,rfl,hV0⟩:=GExpr.opened.1 hri;obtain⟨A0,c0,rfl,hq0a,hq0b⟩:=hV0.ak;clear hq0a hq0b hV0;have q0:=(hb.cell (p:=⟨b,o+k*4,none⟩) hbb).trans (hat.head);have q1:=(hb.cell (p:=⟨b,o+k*4+1,none⟩) hbb).trans (hat.nth 1 rfl);have q2:=(hb.cell (p:=⟨b,o+k*4+2,none⟩) hbb).trans (hat.nth 2 rfl);have q3:=(hb.cell (p:=⟨b,o+k*4+3,none⟩) hbb).trans (hat.nth 3 rfl);clear hat hd hxl
   go_wp2_with fail
   refine(hE _ (f_ hlt) _ _ _ (hri'.same (fun x hx=>hb.block x (hS.lt x (hfi x hx))) hb.size) (by have:=D.jW (p_ (f:=GExpr.toD) (f_ hlt));omega)).mono ?_;rintro e w1 ⟨fn,cs,rfl,hT,hF,hb1⟩;have hTL:=hT.lt;have hT':=hT;obtain⟨u0,t0,rfl,rfl,hV0⟩:=GExpr.opened.1 hT;obtain⟨B0,d0,rfl,hq0a,hq0b⟩:=hV0.ak;clear hq0a hq0b hV0;have hrow1:=hrow.below hb1;have G1:Below w.heap.size w w1:=hb.trans (hb1.mono hb.size);have k0:=hrow1.at_ (i:=k*4) (by have:=hxk.out;omega)
   have k1:=hrow1.at_ (i:=k*4+1) (by have:=hxk.out;omega)
   have k2:=hrow1.at_ (i:=k*4+2) (by have:=hxk.out;omega)
   have k3:=hrow1.at_ (i:=k*4+3) (by have:=hxk.out;omega)
   have hn1:=hrow1.frozen
   go_wp2_with fail
   go_roundw
   case rel=>
    have hxk:=hxk.out;have hxl:=hxl'.out;clear k0 k1 k2 k3 hn1;have hne:w.heap.size∉fs:=fun h=>by have:=(hfr.2 _ h).1;omega
    have hnn:w.heap.size∉fn:=fun h=>by have:=(hF.2 _ h).1;omega
    have hr:=(hrs.below hb1).setCells hne (k*4) [.int .i64 l[k].kind,.int .i64 l[k].n,.string l[k].text,.slice B0 l[k].args.length d0];have hr2:=hT'.setCells hnn (k*4) [.int .i64 l[k].kind,.int .i64 l[k].n,.string l[k].text,.slice B0 l[k].args.length d0];refine⟨k+1,sets xs (k*4) [.int .i64 l[k].kind,.int .i64 l[k].n,.string l[k].text,.slice B0 l[k].args.length d0],fs++fn,by omega,by go_num,hrow1.sets [.int .i64 l[k].kind,.int .i64 l[k].n,.string l[k].text,.slice B0 l[k].args.length d0] (k*4),by rw[jB];exact hxl, ?_, ?_, ?_⟩
    ·have e1:(sets xs (k*4) [.int .i64 l[k].kind,.int .i64 l[k].n,.string l[k].text,.slice B0 l[k].args.length d0]).take (k*4+4)=xs.take (k*4)++ [.int .i64 l[k].kind,.int .i64 l[k].n,.string l[k].text,.slice B0 l[k].args.length d0]:=jJ [.int .i64 l[k].kind,.int .i64 l[k].n,.string l[k].text,.slice B0 l[k].args.length d0] xs (k*4) hxk;rw[show(k+1)*4=k*4+4 by omega,e1,h_ (by simpa using hlt),j_];exact Rs.append (Rs.one hr2) hr
    ·exact aX.append (mid:=wr.heap.size) ((hfr.below hrs.lt hb1).setCells hne (k*4) [.int .i64 l[k].kind,.int .i64 l[k].n,.string l[k].text,.slice B0 l[k].args.length d0]) hrs.lt (hF.setCells hnn (k*4) [.int .i64 l[k].kind,.int .i64 l[k].n,.string l[k].text,.slice B0 l[k].args.length d0]) (by omega)
    ·exact iH (c_ _) [.int .i64 l[k].kind,.int .i64 l[k].n,.string l[k].text,.slice B0 l[k].args.length d0] G1 (k*4)
   case measure=>simp[intOf];omega
  ·have hk':=d_ (show k=l.length by omega);have hxl':=d_ hxl;clear hxl
   go_wp2_with fail
   go_ret
   have hxl:=hxl'.out;have hk:=hk'.out;subst hk;rw[g_ (by simp),g_ (by omega)]at hrs;exact⟨_,_,rfl,Sl.pG hrow hrs (by simp) (by unfold maxLen;omega),aX.lZ hrow (c_ _) hfr,hb⟩
theorem GExpr.ku(x:GExpr):iJ Try.prog 82 x.toD:=GExpr.iy x (zq _ fun y hy=>GExpr.ku y)
termination_by s_ x
decreasing_by exact GExpr.lt_of_mem hy
theorem GPart.iy(x:GPart)(hE0:iJ Try.prog 82 x.expr.toD)(hE1:iJ Try.prog 56 x.value.toD):iJ Try.prog 55 x.toD:=by
 intro w fp cs hR hwt;rw[GPart.gZ]at hwt;obtain⟨v0,v1,v2,v3,f0,f1,f2,f3,rfl,rfl,hS0,hS1,hS2,hS3⟩:=GPart.opened.1 hR;obtain⟨A0,c0,rfl,hq0a,hq0b⟩:=hS0.ak;obtain⟨A1,c1,rfl,hq1a,hq1b⟩:=hS1.ak;obtain⟨A2,c2,rfl,hq2a,hq2b⟩:=hS2.ak;obtain⟨A3,c3,rfl,hq3a,hq3b⟩:=hS3.ak;clear hq0a hq0b;clear hq1a hq1b;clear hq2a hq2b;clear hq3a hq3b;clear hR
 go_enter Try.func55,Try.ntmps55
 go_wp2_with fail
 have hP0:∀wx:World,Below w.heap.size w wx→Calls Try.prog 82 _ wx (mP _ wx):=fun wx hwx=>hE0 wx _ _ (GExpr.opened.2 ⟨_,_,rfl,rfl,hS0.below hwx⟩) (by omega)
 refine(hP0 _ ?_).mono ?_
 ·exact(((a_ _ _).alloc (by simp) _).alloc (by simp;try omega) _).alloc (by simp;try omega) _
 rintro e w1 ⟨g0,cs,rfl,hT,hF0,hb1⟩;have hL0:=hT.lt;have hX0:=hF0.past (lo:=w.heap.size+1) (hi:=w.heap.size+3) (by simp);replace hF0:=hF0.mono (base':=w.heap.size) (by simp;omega);obtain⟨u0,t0,rfl,rfl,hT0⟩:=GExpr.opened.1 hT;obtain⟨B0,d0,rfl,hq0a,hq0b⟩:=hT0.ak;clear hq0a hq0b;obtain⟨hr10,hr11,hr12,hz1,G1⟩:=CX hb1;clear hb1;have k10:=hr10.cell;have k11:=hr11.cell;have k12:=hr12.cell;have n10:=hr10.frozen;have n11:=hr11.frozen;have n12:=hr12.frozen
 go_wp2_with fail
 have hP1:∀wx:World,Below w.heap.size w wx→Calls Try.prog 56 _ wx (mP _ wx):=fun wx hwx=>hE1 wx _ _ (GVal.opened.2 ⟨_,_,_,_,_,_,rfl,rfl,hS1.below hwx,hS2.below hwx,hS3.below hwx⟩) (by omega)
 refine(hP1 _ ?_).mono ?_
 ·exact((((G1.setCell (by simp;try omega) _).setCell (by simp;try omega) _).setCell (by simp;try omega) _).setCell (by simp;try omega) _)
 rintro e w2 ⟨g1,cs,rfl,hT,hF1,hb2⟩;have hL1:=hT.lt;have hX1:=hF1.past (lo:=w.heap.size+1) (hi:=w.heap.size+3) (by simp;omega);replace hF1:=hF1.mono (base':=w1.heap.size) (by simp);obtain⟨u1,u2,u3,t1,t2,t3,rfl,rfl,hT1,hT2,hT3⟩:=GVal.opened.1 hT;obtain⟨B1,d1,rfl,hq1a,hq1b⟩:=hT1.ak;obtain⟨B2,d2,rfl,hq2a,hq2b⟩:=hT2.ak;obtain⟨B3,d3,rfl,hq3a,hq3b⟩:=hT3.ak;clear hq1a hq1b;clear hq2a hq2b;clear hq3a hq3b;have hr20:=(((((hr10.far (by simp;try omega) _).far (by simp;try omega) _).far (by simp;try omega) _).far (by simp;try omega) _)).below hb2;have hr21:=(((((hr11.far (by simp;try omega) _).far (by simp;try omega) _).far (by simp;try omega) _).far (by simp;try omega) _)).below hb2;have hr22:=(((((hr12.set _ _).set _ _).set _ _).set _ _)).below hb2;have hK2:Kept (w.heap.size+1) (w.heap.size+3) w1 w2:=by
  refine Kept.below (b:=_) ?_ hb2
  repeat (first|(with_reducible exact Kept.refl _ _ _)|((with_reducible refine Kept.setCell ?_ ?_ ?_ _);rotate_left;(simp;try omega);(simp;try omega)))
 have hz2:w.heap.size+3≤w2.heap.size:=l_ hz1 hK2.size;have G2:Below w.heap.size w w2:=Kept.toBelow G1 hK2 (by omega) (by omega);clear hb2;have k20:=hr20.cell;have k21:=hr21.cell;have k22:=hr22.cell;have n20:=hr20.frozen;have n21:=hr21.frozen;have n22:=hr22.frozen
 go_wp2_with fail
 have hend:=(GPart.opened (w:=w2) (x:=x)).2 ⟨_,_,_,_,_,_,_,_,rfl,rfl,hT0.kept hK2 hX0,hT1,hT2,hT3⟩;have hfree:=(aX.append (mid:=w1.heap.size) ((hF0.kept hL0 hK2 hX0).mono (base':=w.heap.size) (by omega)) hL0 hF1 (by omega))
 have hpast:=(nX hX0 hX1)
 try simp only[w_]at hfree hpast
 refine bodyPost_ret (v:= .agg #[.int .i64 x.kind,.string x.name,.int .i64 x.expr.kind,.int .i64 x.expr.n,.string x.expr.text,.slice B0 x.expr.args.length d0,.int .i64 x.value.kind,.int .i64 x.value.n,.int .i64 x.value.step,.string x.value.text,.slice B1 x.value.list.length d1,.slice B2 x.value.cols.length d2,.slice B3 x.value.rows.length d3,.int .i64 x.pos]) (by simp[results,Try.results55,go_sem,k20,k21,k22]) rfl (mP.fin (lo:=w.heap.size+1) (hi:=w.heap.size+3) (b:=w2) ?_ hend hfree hpast G2 (by omega))
 repeat (first|(with_reducible exact Kept.refl _ _ _)|((with_reducible refine Kept.setCell ?_ ?_ ?_ _);rotate_left;(simp;try omega);(simp;try omega)))
theorem GPart.ku(x:GPart):iJ Try.prog 55 x.toD:=GPart.iy x (GExpr.ku _) (GVal.ku _)
theorem GRead.iy(x:GRead)(hE0:iJ Try.prog 56 x.result.toD):iJ Try.prog 68 x.toD:=by
 intro w fp cs hR hwt;rw[GRead.gZ]at hwt;obtain⟨v0,v1,v2,f0,f1,f2,rfl,rfl,hS0,hS1,hS2⟩:=GRead.opened.1 hR;obtain⟨A0,c0,rfl,hq0a,hq0b⟩:=hS0.ak;obtain⟨A1,c1,rfl,hq1a,hq1b⟩:=hS1.ak;obtain⟨A2,c2,rfl,hq2a,hq2b⟩:=hS2.ak;clear hq0a hq0b;clear hq1a hq1b;clear hq2a hq2b;clear hR
 go_enter Try.func68,Try.ntmps68
 go_wp2_with fail
 have hP0:∀wx:World,Below w.heap.size w wx→Calls Try.prog 56 _ wx (mP _ wx):=fun wx hwx=>hE0 wx _ _ (GVal.opened.2 ⟨_,_,_,_,_,_,rfl,rfl,hS0.below hwx,hS1.below hwx,hS2.below hwx⟩) (by omega)
 refine(hP0 _ ?_).mono ?_
 ·exact(((a_ _ _).alloc (by simp) _).alloc (by simp;try omega) _).alloc (by simp;try omega) _
 rintro e w1 ⟨g0,cs,rfl,hT,hF0,hb1⟩;have hL0:=hT.lt;have hX0:=hF0.past (lo:=w.heap.size+1) (hi:=w.heap.size+3) (by simp);replace hF0:=hF0.mono (base':=w.heap.size) (by simp;omega);obtain⟨u0,u1,u2,t0,t1,t2,rfl,rfl,hT0,hT1,hT2⟩:=GVal.opened.1 hT;obtain⟨B0,d0,rfl,hq0a,hq0b⟩:=hT0.ak;obtain⟨B1,d1,rfl,hq1a,hq1b⟩:=hT1.ak;obtain⟨B2,d2,rfl,hq2a,hq2b⟩:=hT2.ak;clear hq0a hq0b;clear hq1a hq1b;clear hq2a hq2b;obtain⟨hr10,hr11,hr12,hz1,G1⟩:=CX hb1;clear hb1;have k10:=hr10.cell;have k11:=hr11.cell;have k12:=hr12.cell;have n10:=hr10.frozen;have n11:=hr11.frozen;have n12:=hr12.frozen
 go_wp2_with fail
 have hend:=(GRead.opened (w:=w1) (x:=x)).2 ⟨_,_,_,_,_,_,rfl,rfl,hT0,hT1,hT2⟩;have hfree:=(hF0.mono (base':=w.heap.size) (by omega))
 have hpast:=hX0
 try simp only[w_]at hfree hpast
 refine bodyPost_ret (v:= .agg #[.int .i64 x.kind,.int .i64 x.n,.int .i64 x.time,.string x.text,.int .i64 x.result.kind,.int .i64 x.result.n,.int .i64 x.result.step,.string x.result.text,.slice B0 x.result.list.length d0,.slice B1 x.result.cols.length d1,.slice B2 x.result.rows.length d2]) (by simp[results,Try.results68,go_sem,k10,k11,k12]) rfl (mP.fin (lo:=w.heap.size+1) (hi:=w.heap.size+3) (b:=w1) ?_ hend hfree hpast G1 (by omega))
 repeat (first|(with_reducible exact Kept.refl _ _ _)|((with_reducible refine Kept.setCell ?_ ?_ ?_ _);rotate_left;(simp;try omega);(simp;try omega)))
theorem Gx :(Try.prog.info? 70).map (fun i=>(i.zero,i.size,i.bytes))=some (some (.agg #[.int .i64 0,.int .i64 0,.int .i64 0,.string ⟨#[]⟩,.int .i64 0,.int .i64 0,.int .i64 0,.string ⟨#[]⟩,.slice none 0 0,.slice none 0 0,.slice none 0 0]),11,152):=by kernel_rfl
theorem zi(l:List GRead)(hE:∀x∈l,iJ Try.prog 68 x.toD):fV Try.prog 31 (l.map GRead.toD):=by
 intro w fp v hS hwt;obtain⟨A,c,rfl,hl,hc⟩:=hS.ak;rw[i_]at hwt;obtain⟨i0,hi0,hz0,hz1,hz2⟩:=info_parts Gx;have hmk:∀W:World,(o_ 24 (.int .i64 (l.length:Int)) (.int .i64 (l.length:Int))).run Try.prog W= .ok (.slice (some ⟨W.heap.size,0,none⟩) l.length l.length) (W.alloc (.cells (madeCells (q_ (.agg #[.int .i64 0,.int .i64 0,.int .i64 0,.string ⟨#[]⟩,.int .i64 0,.int .i64 0,.int .i64 0,.string ⟨#[]⟩,.slice none 0 0,.slice none 0 0,.slice none 0 0])) (l.length*11)) 70)):=fun W=>by
  have h:=run_make (P:=Try.prog) W 24 70 i0 _ Try.underlying24 hi0 hz0 .i64 .i64 (l.length:Int) (l.length:Int) (by omega) (r_ _) (by rw[hz2];omega) (by omega);rw[hz1]at h;simpa using h
 clear hl hc hi0 hz0 hz1 hz2
 go_enter Try.func31,Try.ntmps31
 go_wp2_with fail
 go_loopw [4] (fun iv wr=>∃(k:Nat) (xs:List Value) (fs:List Nat),k≤l.length∧iv= .int .i64 k∧Row wr w.heap.size 70 xs∧xs.length=l.length*11∧Rs wr ((l.map GRead.toD).take k) fs (xs.take (k*11))∧aX wr (w.heap.size+1) fs∧Below w.heap.size w wr) (fun iv _=>l.length - (intOf iv).toNat)
 case atStart=>
  refine⟨0,_,[],by omega,rfl,Row.new _ _ _,by simp[madeCells],by simp[Rs],aX.nil,(a_ _ _).alloc (c_ _) _⟩
 case round=>
  obtain⟨k,xs,fs,hk,rfl,hrow,hxl,hrs,hfr,hb⟩:=hrel;by_cases hlt:k<l.length
  ·have hd:(l.map GRead.toD)[k]? =some (GRead.toD l[k]):=by rw[e_,b_ hlt];rfl
   obtain⟨b,o,fi,ci,rfl,hbb,hbf,hri,hfi,hat⟩:=hS.elem GRead.szs hd;have hri':=hri;have hxk:=d_ (show k*11+11≤xs.length by rw[hxl];omega);have hxl':=d_ hxl;have hlw:=hrow.lt;obtain⟨v0,v1,v2,g0,g1,g2,rfl,rfl,hV0,hV1,hV2⟩:=GRead.opened.1 hri;obtain⟨A0,c0,rfl,hq0a,hq0b⟩:=hV0.ak;obtain⟨A1,c1,rfl,hq1a,hq1b⟩:=hV1.ak;obtain⟨A2,c2,rfl,hq2a,hq2b⟩:=hV2.ak;clear hq0a hq0b hV0;clear hq1a hq1b hV1;clear hq2a hq2b hV2;have q0:=(hb.cell (p:=⟨b,o+k*11,none⟩) hbb).trans (hat.head);have q1:=(hb.cell (p:=⟨b,o+k*11+1,none⟩) hbb).trans (hat.nth 1 rfl);have q2:=(hb.cell (p:=⟨b,o+k*11+2,none⟩) hbb).trans (hat.nth 2 rfl);have q3:=(hb.cell (p:=⟨b,o+k*11+3,none⟩) hbb).trans (hat.nth 3 rfl);have q4:=(hb.cell (p:=⟨b,o+k*11+4,none⟩) hbb).trans (hat.nth 4 rfl);have q5:=(hb.cell (p:=⟨b,o+k*11+5,none⟩) hbb).trans (hat.nth 5 rfl);have q6:=(hb.cell (p:=⟨b,o+k*11+6,none⟩) hbb).trans (hat.nth 6 rfl);have q7:=(hb.cell (p:=⟨b,o+k*11+7,none⟩) hbb).trans (hat.nth 7 rfl);have q8:=(hb.cell (p:=⟨b,o+k*11+8,none⟩) hbb).trans (hat.nth 8 rfl);have q9:=(hb.cell (p:=⟨b,o+k*11+9,none⟩) hbb).trans (hat.nth 9 rfl);have q10:=(hb.cell (p:=⟨b,o+k*11+10,none⟩) hbb).trans (hat.nth 10 rfl);clear hat hd hxl
   go_wp2_with fail
   refine(hE _ (f_ hlt) _ _ _ (hri'.same (fun x hx=>hb.block x (hS.lt x (hfi x hx))) hb.size) (by have:=D.jW (p_ (f:=GRead.toD) (f_ hlt));omega)).mono ?_;rintro e w1 ⟨fn,cs,rfl,hT,hF,hb1⟩;have hTL:=hT.lt;have hT':=hT;obtain⟨u0,u1,u2,t0,t1,t2,rfl,rfl,hV0,hV1,hV2⟩:=GRead.opened.1 hT;obtain⟨B0,d0,rfl,hq0a,hq0b⟩:=hV0.ak;obtain⟨B1,d1,rfl,hq1a,hq1b⟩:=hV1.ak;obtain⟨B2,d2,rfl,hq2a,hq2b⟩:=hV2.ak;clear hq0a hq0b hV0;clear hq1a hq1b hV1;clear hq2a hq2b hV2;have hrow1:=hrow.below hb1;have G1:Below w.heap.size w w1:=hb.trans (hb1.mono hb.size);have k0:=hrow1.at_ (i:=k*11) (by have:=hxk.out;omega)
   have k1:=hrow1.at_ (i:=k*11+1) (by have:=hxk.out;omega)
   have k2:=hrow1.at_ (i:=k*11+2) (by have:=hxk.out;omega)
   have k3:=hrow1.at_ (i:=k*11+3) (by have:=hxk.out;omega)
   have k4:=hrow1.at_ (i:=k*11+4) (by have:=hxk.out;omega)
   have k5:=hrow1.at_ (i:=k*11+5) (by have:=hxk.out;omega)
   have k6:=hrow1.at_ (i:=k*11+6) (by have:=hxk.out;omega)
   have k7:=hrow1.at_ (i:=k*11+7) (by have:=hxk.out;omega)
   have k8:=hrow1.at_ (i:=k*11+8) (by have:=hxk.out;omega)
   have k9:=hrow1.at_ (i:=k*11+9) (by have:=hxk.out;omega)
   have k10:=hrow1.at_ (i:=k*11+10) (by have:=hxk.out;omega)
   have hn1:=hrow1.frozen
   go_wp2_with fail
   go_roundw
   case rel=>
    have hxk:=hxk.out;have hxl:=hxl'.out;clear k0 k1 k2 k3 k4 k5 k6 k7 k8 k9 k10 hn1;have hne:w.heap.size∉fs:=fun h=>by have:=(hfr.2 _ h).1;omega
    have hnn:w.heap.size∉(t0++(t1++t2)):=fun h=>by have:=(hF.2 _ h).1;omega
    have hr:=(hrs.below hb1).setCells hne (k*11) [.int .i64 l[k].kind,.int .i64 l[k].n,.int .i64 l[k].time,.string l[k].text,.int .i64 l[k].result.kind,.int .i64 l[k].result.n,.int .i64 l[k].result.step,.string l[k].result.text,.slice B0 l[k].result.list.length d0,.slice B1 l[k].result.cols.length d1,.slice B2 l[k].result.rows.length d2];have hr2:=hT'.setCells hnn (k*11) [.int .i64 l[k].kind,.int .i64 l[k].n,.int .i64 l[k].time,.string l[k].text,.int .i64 l[k].result.kind,.int .i64 l[k].result.n,.int .i64 l[k].result.step,.string l[k].result.text,.slice B0 l[k].result.list.length d0,.slice B1 l[k].result.cols.length d1,.slice B2 l[k].result.rows.length d2];refine⟨k+1,sets xs (k*11) [.int .i64 l[k].kind,.int .i64 l[k].n,.int .i64 l[k].time,.string l[k].text,.int .i64 l[k].result.kind,.int .i64 l[k].result.n,.int .i64 l[k].result.step,.string l[k].result.text,.slice B0 l[k].result.list.length d0,.slice B1 l[k].result.cols.length d1,.slice B2 l[k].result.rows.length d2],fs++(t0++(t1++t2)),by omega,by go_num,hrow1.sets [.int .i64 l[k].kind,.int .i64 l[k].n,.int .i64 l[k].time,.string l[k].text,.int .i64 l[k].result.kind,.int .i64 l[k].result.n,.int .i64 l[k].result.step,.string l[k].result.text,.slice B0 l[k].result.list.length d0,.slice B1 l[k].result.cols.length d1,.slice B2 l[k].result.rows.length d2] (k*11),by rw[jB];exact hxl, ?_, ?_, ?_⟩
    ·have e1:(sets xs (k*11) [.int .i64 l[k].kind,.int .i64 l[k].n,.int .i64 l[k].time,.string l[k].text,.int .i64 l[k].result.kind,.int .i64 l[k].result.n,.int .i64 l[k].result.step,.string l[k].result.text,.slice B0 l[k].result.list.length d0,.slice B1 l[k].result.cols.length d1,.slice B2 l[k].result.rows.length d2]).take (k*11+11)=xs.take (k*11)++ [.int .i64 l[k].kind,.int .i64 l[k].n,.int .i64 l[k].time,.string l[k].text,.int .i64 l[k].result.kind,.int .i64 l[k].result.n,.int .i64 l[k].result.step,.string l[k].result.text,.slice B0 l[k].result.list.length d0,.slice B1 l[k].result.cols.length d1,.slice B2 l[k].result.rows.length d2]:=jJ [.int .i64 l[k].kind,.int .i64 l[k].n,.int .i64 l[k].time,.string l[k].text,.int .i64 l[k].result.kind,.int .i64 l[k].result.n,.int .i64 l[k].result.step,.string l[k].result.text,.slice B0 l[k].result.list.length d0,.slice B1 l[k].result.cols.length d1,.slice B2 l[k].result.rows.length d2] xs (k*11) hxk;rw[show(k+1)*11=k*11+11 by omega,e1,h_ (by simpa using hlt),j_];exact Rs.append (Rs.one hr2) hr
    ·exact aX.append (mid:=wr.heap.size) ((hfr.below hrs.lt hb1).setCells hne (k*11) [.int .i64 l[k].kind,.int .i64 l[k].n,.int .i64 l[k].time,.string l[k].text,.int .i64 l[k].result.kind,.int .i64 l[k].result.n,.int .i64 l[k].result.step,.string l[k].result.text,.slice B0 l[k].result.list.length d0,.slice B1 l[k].result.cols.length d1,.slice B2 l[k].result.rows.length d2]) hrs.lt (hF.setCells hnn (k*11) [.int .i64 l[k].kind,.int .i64 l[k].n,.int .i64 l[k].time,.string l[k].text,.int .i64 l[k].result.kind,.int .i64 l[k].result.n,.int .i64 l[k].result.step,.string l[k].result.text,.slice B0 l[k].result.list.length d0,.slice B1 l[k].result.cols.length d1,.slice B2 l[k].result.rows.length d2]) (by omega)
    ·exact iH (c_ _) [.int .i64 l[k].kind,.int .i64 l[k].n,.int .i64 l[k].time,.string l[k].text,.int .i64 l[k].result.kind,.int .i64 l[k].result.n,.int .i64 l[k].result.step,.string l[k].result.text,.slice B0 l[k].result.list.length d0,.slice B1 l[k].result.cols.length d1,.slice B2 l[k].result.rows.length d2] G1 (k*11)
   case measure=>simp[intOf];omega
  ·have hk':=d_ (show k=l.length by omega);have hxl':=d_ hxl;clear hxl
   go_wp2_with fail
   go_ret
   have hxl:=hxl'.out;have hk:=hk'.out;subst hk;rw[g_ (by simp),g_ (by omega)]at hrs;exact⟨_,_,rfl,Sl.pG hrow hrs (by simp) (by unfold maxLen;omega),aX.lZ hrow (c_ _) hfr,hb⟩
theorem GRead.ku(x:GRead):iJ Try.prog 68 x.toD:=GRead.iy x (GVal.ku _)
theorem kZ(l:List GRead):fV Try.prog 31 (l.map GRead.toD):=zi l fun x _=>x.ku
theorem GTape.iy(x:GTape)(hE0:fV Try.prog 31 (x.reads.map GRead.toD)):iJ Try.prog 39 x.toD:=by
 intro w fp cs hR hwt;rw[GTape.gZ]at hwt;obtain⟨v0,f0,rfl,rfl,hS0⟩:=GTape.opened.1 hR;obtain⟨A0,c0,rfl,hq0a,hq0b⟩:=hS0.ak;clear hq0a hq0b;clear hR
 go_enter Try.func39,Try.ntmps39
 go_wp2_with fail
 have hP0:∀wx:World,Below w.heap.size w wx→Calls Try.prog 31 _ wx (kY _ wx):=fun wx hwx=>hE0 wx _ _ (hS0.below hwx) (by omega)
 refine(hP0 _ ?_).mono ?_
 ·exact(((a_ _ _).alloc (by simp) _).alloc (by simp;try omega) _).alloc (by simp;try omega) _
 rintro e w1 ⟨g0,v,rfl,hT0,hF0,hb1⟩;have hL0:=hT0.lt;have hX0:=hF0.past (lo:=w.heap.size+1) (hi:=w.heap.size+3) (by simp);replace hF0:=hF0.mono (base':=w.heap.size) (by simp;omega);obtain⟨B0,d0,rfl,hq0a,hq0b⟩:=hT0.ak;clear hq0a hq0b;obtain⟨hr10,hr11,hr12,hz1,G1⟩:=CX hb1;clear hb1;have k10:=hr10.cell;have k11:=hr11.cell;have k12:=hr12.cell;have n10:=hr10.frozen;have n11:=hr11.frozen;have n12:=hr12.frozen
 go_wp2_with fail
 have hend:=(GTape.opened (w:=w1) (x:=x)).2 ⟨_,_,rfl,rfl,hT0⟩;have hfree:=(hF0.mono (base':=w.heap.size) (by omega))
 have hpast:=hX0;refine bodyPost_ret (v:= .agg #[.int .i64 x.cell,.int .i64 x.ver,.slice B0 x.reads.length d0]) (by simp[results,Try.results39,go_sem,k10,k11,k12]) rfl (mP.fin (lo:=w.heap.size+1) (hi:=w.heap.size+3) (b:=w1) ?_ hend hfree hpast G1 (by omega))
 repeat (first|(with_reducible exact Kept.refl _ _ _)|((with_reducible refine Kept.setCell ?_ ?_ ?_ _);rotate_left;(simp;try omega);(simp;try omega)))
theorem Gw :(Try.prog.info? 66).map (fun i=>(i.zero,i.size,i.bytes))=some (some (.agg #[.int .i64 0,.int .i64 0,.slice none 0 0]),3,40):=by kernel_rfl
theorem y7(l:List GTape)(hE:∀x∈l,iJ Try.prog 39 x.toD):fV Try.prog 9 (l.map GTape.toD):=by
 intro w fp v hS hwt;obtain⟨A,c,rfl,hl,hc⟩:=hS.ak;rw[i_]at hwt;obtain⟨i0,hi0,hz0,hz1,hz2⟩:=info_parts Gw;have hmk:∀W:World,(o_ 26 (.int .i64 (l.length:Int)) (.int .i64 (l.length:Int))).run Try.prog W= .ok (.slice (some ⟨W.heap.size,0,none⟩) l.length l.length) (W.alloc (.cells (madeCells (q_ (.agg #[.int .i64 0,.int .i64 0,.slice none 0 0])) (l.length*3)) 66)):=fun W=>by
  have h:=run_make (P:=Try.prog) W 26 66 i0 _ Try.underlying26 hi0 hz0 .i64 .i64 (l.length:Int) (l.length:Int) (by omega) (r_ _) (by rw[hz2];omega) (by omega);rw[hz1]at h;simpa using h
 clear hl hc hi0 hz0 hz1 hz2
 go_enter Try.func9,Try.ntmps9
 go_wp2_with fail
 go_loopw [4] (fun iv wr=>∃(k:Nat) (xs:List Value) (fs:List Nat),k≤l.length∧iv= .int .i64 k∧Row wr w.heap.size 66 xs∧xs.length=l.length*3∧Rs wr ((l.map GTape.toD).take k) fs (xs.take (k*3))∧aX wr (w.heap.size+1) fs∧Below w.heap.size w wr) (fun iv _=>l.length - (intOf iv).toNat)
 case atStart=>
  refine⟨0,_,[],by omega,rfl,Row.new _ _ _,by simp[madeCells],by simp[Rs],aX.nil,(a_ _ _).alloc (c_ _) _⟩
 case round=>
  obtain⟨k,xs,fs,hk,rfl,hrow,hxl,hrs,hfr,hb⟩:=hrel;by_cases hlt:k<l.length
  ·have hd:(l.map GTape.toD)[k]? =some (GTape.toD l[k]):=by rw[e_,b_ hlt];rfl
   obtain⟨b,o,fi,ci,rfl,hbb,hbf,hri,hfi,hat⟩:=hS.elem GTape.szs hd;have hri':=hri;have hxk:=d_ (show k*3+3≤xs.length by rw[hxl];omega);have hxl':=d_ hxl;have hlw:=hrow.lt;obtain⟨v0,g0,rfl,rfl,hV0⟩:=GTape.opened.1 hri;obtain⟨A0,c0,rfl,hq0a,hq0b⟩:=hV0.ak;clear hq0a hq0b hV0;have q0:=(hb.cell (p:=⟨b,o+k*3,none⟩) hbb).trans (hat.head);have q1:=(hb.cell (p:=⟨b,o+k*3+1,none⟩) hbb).trans (hat.nth 1 rfl);have q2:=(hb.cell (p:=⟨b,o+k*3+2,none⟩) hbb).trans (hat.nth 2 rfl);clear hat hd hxl
   go_wp2_with fail
   refine(hE _ (f_ hlt) _ _ _ (hri'.same (fun x hx=>hb.block x (hS.lt x (hfi x hx))) hb.size) (by have:=D.jW (p_ (f:=GTape.toD) (f_ hlt));omega)).mono ?_;rintro e w1 ⟨fn,cs,rfl,hT,hF,hb1⟩;have hTL:=hT.lt;have hT':=hT;obtain⟨u0,t0,rfl,rfl,hV0⟩:=GTape.opened.1 hT;obtain⟨B0,d0,rfl,hq0a,hq0b⟩:=hV0.ak;clear hq0a hq0b hV0;have hrow1:=hrow.below hb1;have G1:Below w.heap.size w w1:=hb.trans (hb1.mono hb.size);have k0:=hrow1.at_ (i:=k*3) (by have:=hxk.out;omega)
   have k1:=hrow1.at_ (i:=k*3+1) (by have:=hxk.out;omega)
   have k2:=hrow1.at_ (i:=k*3+2) (by have:=hxk.out;omega)
   have hn1:=hrow1.frozen
   go_wp2_with fail
   go_roundw
   case rel=>
    have hxk:=hxk.out;have hxl:=hxl'.out;clear k0 k1 k2 hn1;have hne:w.heap.size∉fs:=fun h=>by have:=(hfr.2 _ h).1;omega
    have hnn:w.heap.size∉fn:=fun h=>by have:=(hF.2 _ h).1;omega
    have hr:=(hrs.below hb1).setCells hne (k*3) [.int .i64 l[k].cell,.int .i64 l[k].ver,.slice B0 l[k].reads.length d0];have hr2:=hT'.setCells hnn (k*3) [.int .i64 l[k].cell,.int .i64 l[k].ver,.slice B0 l[k].reads.length d0];refine⟨k+1,sets xs (k*3) [.int .i64 l[k].cell,.int .i64 l[k].ver,.slice B0 l[k].reads.length d0],fs++fn,by omega,by go_num,hrow1.sets [.int .i64 l[k].cell,.int .i64 l[k].ver,.slice B0 l[k].reads.length d0] (k*3),by rw[jB];exact hxl, ?_, ?_, ?_⟩
    ·have e1:(sets xs (k*3) [.int .i64 l[k].cell,.int .i64 l[k].ver,.slice B0 l[k].reads.length d0]).take (k*3+3)=xs.take (k*3)++ [.int .i64 l[k].cell,.int .i64 l[k].ver,.slice B0 l[k].reads.length d0]:=jJ [.int .i64 l[k].cell,.int .i64 l[k].ver,.slice B0 l[k].reads.length d0] xs (k*3) hxk;rw[show(k+1)*3=k*3+3 by omega,e1,h_ (by simpa using hlt),j_];exact Rs.append (Rs.one hr2) hr
    ·exact aX.append (mid:=wr.heap.size) ((hfr.below hrs.lt hb1).setCells hne (k*3) [.int .i64 l[k].cell,.int .i64 l[k].ver,.slice B0 l[k].reads.length d0]) hrs.lt (hF.setCells hnn (k*3) [.int .i64 l[k].cell,.int .i64 l[k].ver,.slice B0 l[k].reads.length d0]) (by omega)
    ·exact iH (c_ _) [.int .i64 l[k].cell,.int .i64 l[k].ver,.slice B0 l[k].reads.length d0] G1 (k*3)
   case measure=>simp[intOf];omega
  ·have hk':=d_ (show k=l.length by omega);have hxl':=d_ hxl;clear hxl
   go_wp2_with fail
   go_ret
   have hxl:=hxl'.out;have hk:=hk'.out;subst hk;rw[g_ (by simp),g_ (by omega)]at hrs;exact⟨_,_,rfl,Sl.pG hrow hrs (by simp) (by unfold maxLen;omega),aX.lZ hrow (c_ _) hfr,hb⟩
theorem GTape.ku(x:GTape):iJ Try.prog 39 x.toD:=GTape.iy x (kZ _)
theorem iQ(l:List GTape):fV Try.prog 9 (l.map GTape.toD):=y7 l fun x _=>x.ku
theorem BO(l:List Int):fZ Try.prog 96 (l.map li):=by
 intro w f1 f2 v1 v2 hS1 hS2;obtain⟨A,c,rfl,hl,hc⟩:=hS1.ak;obtain⟨A',c',rfl,hl',hc'⟩:=hS2.ak;have hm:l.length≤9223372036854775807:=by unfold maxLen at hc;omega
 clear hl hc hl' hc'
 go_enter Try.func96,Try.ntmps96
 go_wp2_with fail
 go_loopw [5] (fun iv wr=>∃(k:Nat),k≤l.length∧iv= .int .i64 k∧Below w.heap.size w wr) (fun iv _=>l.length - (intOf iv).toNat)
 case atStart=>exact⟨0,by omega,rfl,a_ _ _⟩
 case round=>
  obtain⟨k,hk,rfl,hb⟩:=hrel;by_cases hlt:k<l.length
  ·have hd:(l.map li)[k]? =some (li l[k]):=by rw[e_,b_ hlt];rfl
   obtain⟨b1,o1,fi1,ci1,rfl,hbb1,hbf1,hri1,hfi1,hat1⟩:=hS1.elem Ah hd;obtain⟨b2,o2,fi2,ci2,rfl,hbb2,hbf2,hri2,hfi2,hat2⟩:=hS2.elem Ah hd;have hi1:0≤(k:Int):=by omega
   have hi2:(k:Int)<l.length:=by omega
   have hri1':=hri1;have hri2':=hri2;obtain⟨rfl,rfl⟩:=hri1;have q10:wr.cell? ⟨b1,o1+k,none⟩=some (.int .i64 l[k]):=(hb.cell (p:=⟨b1,o1+k,none⟩) hbb1).trans (by simpa using hat1.head);obtain⟨rfl,rfl⟩:=hri2;have q20:wr.cell? ⟨b2,o2+k,none⟩=some (.int .i64 l[k]):=(hb.cell (p:=⟨b2,o2+k,none⟩) hbb2).trans (by simpa using hat2.head);clear hat1 hat2 hd
   go_wp2_with fail
   go_quiet (fail)
   go_wp2_with fail
   go_roundw
   case rel=>exact⟨k+1,by omega,by go_num,qX hb _⟩
   case measure=>simp[intOf];omega
  ·go_wp2_with fail
   go_ret
   exact⟨rfl,hb⟩
theorem IK(l:List Int):fZ Try.prog 96 (l.map li):=BO l
theorem vZ(l:List ByteArray):fZ Try.prog 60 (l.map ls):=by
 intro w f1 f2 v1 v2 hS1 hS2;obtain⟨A,c,rfl,hl,hc⟩:=hS1.ak;obtain⟨A',c',rfl,hl',hc'⟩:=hS2.ak;have hm:l.length≤9223372036854775807:=by unfold maxLen at hc;omega
 clear hl hc hl' hc'
 go_enter Try.func60,Try.ntmps60
 go_wp2_with fail
 go_loopw [5] (fun iv wr=>∃(k:Nat),k≤l.length∧iv= .int .i64 k∧Below w.heap.size w wr) (fun iv _=>l.length - (intOf iv).toNat)
 case atStart=>exact⟨0,by omega,rfl,a_ _ _⟩
 case round=>
  obtain⟨k,hk,rfl,hb⟩:=hrel;by_cases hlt:k<l.length
  ·have hd:(l.map ls)[k]? =some (ls l[k]):=by rw[e_,b_ hlt];rfl
   obtain⟨b1,o1,fi1,ci1,rfl,hbb1,hbf1,hri1,hfi1,hat1⟩:=hS1.elem wX hd;obtain⟨b2,o2,fi2,ci2,rfl,hbb2,hbf2,hri2,hfi2,hat2⟩:=hS2.elem wX hd;have hi1:0≤(k:Int):=by omega
   have hi2:(k:Int)<l.length:=by omega
   have hri1':=hri1;have hri2':=hri2;obtain⟨rfl,rfl⟩:=hri1;have q10:wr.cell? ⟨b1,o1+k,none⟩=some (.string l[k]):=(hb.cell (p:=⟨b1,o1+k,none⟩) hbb1).trans (by simpa using hat1.head);obtain⟨rfl,rfl⟩:=hri2;have q20:wr.cell? ⟨b2,o2+k,none⟩=some (.string l[k]):=(hb.cell (p:=⟨b2,o2+k,none⟩) hbb2).trans (by simpa using hat2.head);clear hat1 hat2 hd
   go_wp2_with fail
   go_quiet (fail)
   go_wp2_with fail
   go_roundw
   case rel=>exact⟨k+1,by omega,by go_num,qX hb _⟩
   case measure=>simp[intOf];omega
  ·go_wp2_with fail
   go_ret
   exact⟨rfl,hb⟩
theorem Bo(l:List ByteArray):fZ Try.prog 60 (l.map ls):=vZ l
theorem GOrigin.iD(x:GOrigin):iK Try.prog 105 x.toD:=by
 intro w f1 f2 cs1 cs2 hR hR2;obtain⟨rfl,rfl⟩:=GOrigin.opened.1 hR;clear hR;obtain⟨rfl,rfl⟩:=GOrigin.opened.1 hR2;clear hR2
 go_enter Try.func105,Try.ntmps105
 go_wp2_with fail
 go_ret
 exact⟨rfl,((a_ _ _).alloc (c_ _) _).alloc (by simp) _⟩
theorem wF(l:List GOrigin)(hE:∀x∈l,iK Try.prog 105 x.toD):fZ Try.prog 97 (l.map GOrigin.toD):=by
 intro w f1 f2 v1 v2 hS1 hS2;obtain⟨A,c,rfl,hl,hc⟩:=hS1.ak;obtain⟨A',c',rfl,hl',hc'⟩:=hS2.ak;have hm:l.length≤9223372036854775807:=by unfold maxLen at hc;omega
 clear hl hc hl' hc'
 go_enter Try.func97,Try.ntmps97
 go_wp2_with fail
 go_loopw [5] (fun iv wr=>∃(k:Nat),k≤l.length∧iv= .int .i64 k∧Below w.heap.size w wr) (fun iv _=>l.length - (intOf iv).toNat)
 case atStart=>exact⟨0,by omega,rfl,a_ _ _⟩
 case round=>
  obtain⟨k,hk,rfl,hb⟩:=hrel;by_cases hlt:k<l.length
  ·have hd:(l.map GOrigin.toD)[k]? =some (GOrigin.toD l[k]):=by rw[e_,b_ hlt];rfl
   obtain⟨b1,o1,fi1,ci1,rfl,hbb1,hbf1,hri1,hfi1,hat1⟩:=hS1.elem GOrigin.szs hd;obtain⟨b2,o2,fi2,ci2,rfl,hbb2,hbf2,hri2,hfi2,hat2⟩:=hS2.elem GOrigin.szs hd;have hi1:0≤(k:Int):=by omega
   have hi2:(k:Int)<l.length:=by omega
   have hri1':=hri1;have hri2':=hri2;obtain⟨rfl,rfl⟩:=GOrigin.opened.1 hri1;have q10:wr.cell? ⟨b1,o1+k*2,none⟩=some (.int .i64 l[k].cell):=(hb.cell (p:=⟨b1,o1+k*2,none⟩) hbb1).trans (hat1.head);have q11:wr.cell? ⟨b1,o1+k*2+1,none⟩=some (.int .i64 l[k].row):=(hb.cell (p:=⟨b1,o1+k*2+1,none⟩) hbb1).trans (hat1.nth 1 rfl);obtain⟨rfl,rfl⟩:=GOrigin.opened.1 hri2;have q20:wr.cell? ⟨b2,o2+k*2,none⟩=some (.int .i64 l[k].cell):=(hb.cell (p:=⟨b2,o2+k*2,none⟩) hbb2).trans (hat2.head);have q21:wr.cell? ⟨b2,o2+k*2+1,none⟩=some (.int .i64 l[k].row):=(hb.cell (p:=⟨b2,o2+k*2+1,none⟩) hbb2).trans (hat2.nth 1 rfl);clear hat1 hat2 hd hri1 hri2;have hbr1:b1<wr.heap.size:=k_ hbb1 hb.size;have hbr2:b2<wr.heap.size:=k_ hbb2 hb.size;have hP:∀wx:World,Below wr.heap.size wr wx→Calls Try.prog 105 _ wx (dZ wx):=fun wx hwx=>hE _ (f_ hlt) wx _ _ _ _ ((hri1'.same (fun x hx=>hb.block x (hS1.lt x (hfi1 x hx))) hb.size).below hwx) ((hri2'.same (fun x hx=>hb.block x (hS2.lt x (hfi2 x hx))) hb.size).below hwx)
   clear hri1' hri2' hE
   go_wp2_with fail
   go_region_held3 (fun w'=>w'.cell? ⟨b1,o1+k*2,none⟩=some (.int .i64 l[k].cell)∧w'.cell? ⟨b1,o1+k*2+1,none⟩=some (.int .i64 l[k].row)∧w'.cell? ⟨b2,o2+k*2,none⟩=some (.int .i64 l[k].cell)∧w'.cell? ⟨b2,o2+k*2+1,none⟩=some (.int .i64 l[k].row)) (go_keep)
    ((go_at_call 105;refine(hP _ ?_).mono ?_;(exact(a_ _ _).drew);rintro e w1 ⟨rfl,hb1⟩;have hc1:∀o,w1.cell? ⟨b1,o,none⟩=wr.cell? ⟨b1,o,none⟩:=fun o=>hb1.cell (p:=⟨b1,o,none⟩) hbr1;have hc2:∀o,w1.cell? ⟨b2,o,none⟩=wr.cell? ⟨b2,o,none⟩:=fun o=>hb1.cell (p:=⟨b2,o,none⟩) hbr2))
   go_wp2_with fail
   go_roundw
   case rel=>exact⟨k+1,by omega,by go_num,hb.drew.trans (hb1.mono hb.size)⟩
   case measure=>simp[intOf];omega
  ·go_wp2_with fail
   go_ret
   exact⟨rfl,hb⟩
theorem GOrigin.kG(x:GOrigin):iK Try.prog 105 x.toD:=GOrigin.iD x
theorem BI(l:List GOrigin):fZ Try.prog 97 (l.map GOrigin.toD):=wF l fun x _=>x.kG
theorem GRow.iD(x:GRow)(hE0:fZ Try.prog 96 (x.cells.map li))(hE1:fZ Try.prog 97 (x.src.map GOrigin.toD)):iK Try.prog 88 x.toD:=by
 intro w f1 f2 cs1 cs2 hR hR2;obtain⟨vA0,vA1,fA0,fA1,rfl,rfl,hSA0,hSA1⟩:=GRow.opened.1 hR;obtain⟨A0,cA0,rfl,hqa,hqb⟩:=hSA0.ak;clear hqa hqb;obtain⟨A1,cA1,rfl,hqa,hqb⟩:=hSA1.ak;clear hqa hqb;clear hR;obtain⟨vB0,vB1,fB0,fB1,rfl,rfl,hSB0,hSB1⟩:=GRow.opened.1 hR2;obtain⟨B0,cB0,rfl,hqa,hqb⟩:=hSB0.ak;clear hqa hqb;obtain⟨B1,cB1,rfl,hqa,hqb⟩:=hSB1.ak;clear hqa hqb;clear hR2
 go_enter Try.func88,Try.ntmps88
 go_wp2_with fail
 have hP0:∀wx:World,Below w.heap.size w wx→Calls Try.prog 96 _ wx (dZ wx):=fun wx hwx=>hE0 wx _ _ _ _ (hSA0.below hwx) (hSB0.below hwx)
 refine(hP0 _ ?_).mono ?_
 ·exact((a_ _ _).alloc (by simp) _).alloc (by simp;try omega) _
 rintro e w1 ⟨rfl,hb1⟩;obtain⟨hr10,hr11,hz1,G1⟩:=qw hb1;clear hb1;have k10:=hr10.cell;have k11:=hr11.cell
 go_wp2_with fail
 have hP1:∀wx:World,Below w.heap.size w wx→Calls Try.prog 97 _ wx (dZ wx):=fun wx hwx=>hE1 wx _ _ _ _ (hSA1.below hwx) (hSB1.below hwx)
 refine(hP1 _ ?_).mono ?_
 ·exact G1
 rintro e w2 ⟨rfl,hb2⟩;have hr20:=hr10.below hb2;have hr21:=hr11.below hb2;have hz2:w.heap.size+2≤w2.heap.size:=l_ hz1 hb2.size;have G2:Below w.heap.size w w2:=G1.trans (hb2.mono (by omega));clear hb2;have k20:=hr20.cell;have k21:=hr21.cell
 go_wp2_with fail
 go_ret
 exact⟨rfl,G2⟩
theorem Bz(l:List GRow)(hE:∀x∈l,iK Try.prog 88 x.toD):fZ Try.prog 61 (l.map GRow.toD):=by
 intro w f1 f2 v1 v2 hS1 hS2;obtain⟨A,c,rfl,hl,hc⟩:=hS1.ak;obtain⟨A',c',rfl,hl',hc'⟩:=hS2.ak;have hm:l.length≤9223372036854775807:=by unfold maxLen at hc;omega
 clear hl hc hl' hc'
 go_enter Try.func61,Try.ntmps61
 go_wp2_with fail
 go_loopw [5] (fun iv wr=>∃(k:Nat),k≤l.length∧iv= .int .i64 k∧Below w.heap.size w wr) (fun iv _=>l.length - (intOf iv).toNat)
 case atStart=>exact⟨0,by omega,rfl,a_ _ _⟩
 case round=>
  obtain⟨k,hk,rfl,hb⟩:=hrel;by_cases hlt:k<l.length
  ·have hd:(l.map GRow.toD)[k]? =some (GRow.toD l[k]):=by rw[e_,b_ hlt];rfl
   obtain⟨b1,o1,fi1,ci1,rfl,hbb1,hbf1,hri1,hfi1,hat1⟩:=hS1.elem GRow.szs hd;obtain⟨b2,o2,fi2,ci2,rfl,hbb2,hbf2,hri2,hfi2,hat2⟩:=hS2.elem GRow.szs hd;have hi1:0≤(k:Int):=by omega
   have hi2:(k:Int)<l.length:=by omega
   have hri1':=hri1;have hri2':=hri2;obtain⟨v10,v11,g10,g11,rfl,rfl,hV10,hV11⟩:=GRow.opened.1 hri1;obtain⟨A10,c10,rfl,hqa,hqb⟩:=hV10.ak;clear hqa hqb hV10;obtain⟨A11,c11,rfl,hqa,hqb⟩:=hV11.ak;clear hqa hqb hV11;have q10:wr.cell? ⟨b1,o1+k*2,none⟩=some (.slice A10 l[k].cells.length c10):=(hb.cell (p:=⟨b1,o1+k*2,none⟩) hbb1).trans (hat1.head);have q11:wr.cell? ⟨b1,o1+k*2+1,none⟩=some (.slice A11 l[k].src.length c11):=(hb.cell (p:=⟨b1,o1+k*2+1,none⟩) hbb1).trans (hat1.nth 1 rfl);obtain⟨v20,v21,g20,g21,rfl,rfl,hV20,hV21⟩:=GRow.opened.1 hri2;obtain⟨A20,c20,rfl,hqa,hqb⟩:=hV20.ak;clear hqa hqb hV20;obtain⟨A21,c21,rfl,hqa,hqb⟩:=hV21.ak;clear hqa hqb hV21;have q20:wr.cell? ⟨b2,o2+k*2,none⟩=some (.slice A20 l[k].cells.length c20):=(hb.cell (p:=⟨b2,o2+k*2,none⟩) hbb2).trans (hat2.head);have q21:wr.cell? ⟨b2,o2+k*2+1,none⟩=some (.slice A21 l[k].src.length c21):=(hb.cell (p:=⟨b2,o2+k*2+1,none⟩) hbb2).trans (hat2.nth 1 rfl);clear hat1 hat2 hd hri1 hri2;have hbr1:b1<wr.heap.size:=k_ hbb1 hb.size;have hbr2:b2<wr.heap.size:=k_ hbb2 hb.size;have hP:∀wx:World,Below wr.heap.size wr wx→Calls Try.prog 88 _ wx (dZ wx):=fun wx hwx=>hE _ (f_ hlt) wx _ _ _ _ ((hri1'.same (fun x hx=>hb.block x (hS1.lt x (hfi1 x hx))) hb.size).below hwx) ((hri2'.same (fun x hx=>hb.block x (hS2.lt x (hfi2 x hx))) hb.size).below hwx)
   clear hri1' hri2' hE
   go_wp2_with fail
   go_region_held3 (fun w'=>w'.cell? ⟨b1,o1+k*2,none⟩=some (.slice A10 l[k].cells.length c10)∧w'.cell? ⟨b1,o1+k*2+1,none⟩=some (.slice A11 l[k].src.length c11)∧w'.cell? ⟨b2,o2+k*2,none⟩=some (.slice A20 l[k].cells.length c20)∧w'.cell? ⟨b2,o2+k*2+1,none⟩=some (.slice A21 l[k].src.length c21)) (go_keep)
    ((go_at_call 88;refine(hP _ ?_).mono ?_;(exact(a_ _ _).drew);rintro e w1 ⟨rfl,hb1⟩;have hc1:∀o,w1.cell? ⟨b1,o,none⟩=wr.cell? ⟨b1,o,none⟩:=fun o=>hb1.cell (p:=⟨b1,o,none⟩) hbr1;have hc2:∀o,w1.cell? ⟨b2,o,none⟩=wr.cell? ⟨b2,o,none⟩:=fun o=>hb1.cell (p:=⟨b2,o,none⟩) hbr2))
   go_wp2_with fail
   go_roundw
   case rel=>exact⟨k+1,by omega,by go_num,hb.drew.trans (hb1.mono hb.size)⟩
   case measure=>simp[intOf];omega
  ·go_wp2_with fail
   go_ret
   exact⟨rfl,hb⟩
theorem GRow.kG(x:GRow):iK Try.prog 88 x.toD:=GRow.iD x (IK _) (BI _)
theorem IB(l:List GRow):fZ Try.prog 61 (l.map GRow.toD):=Bz l fun x _=>x.kG
theorem GVal.iD(x:GVal)(hE0:fZ Try.prog 24 (x.list.map GVal.toD))(hE1:fZ Try.prog 60 (x.cols.map ls))(hE2:fZ Try.prog 61 (x.rows.map GRow.toD)):iK Try.prog 22 x.toD:=by
 intro w f1 f2 cs1 cs2 hR hR2;obtain⟨vA0,vA1,vA2,fA0,fA1,fA2,rfl,rfl,hSA0,hSA1,hSA2⟩:=GVal.opened.1 hR;obtain⟨A0,cA0,rfl,hqa,hqb⟩:=hSA0.ak;clear hqa hqb;obtain⟨A1,cA1,rfl,hqa,hqb⟩:=hSA1.ak;clear hqa hqb;obtain⟨A2,cA2,rfl,hqa,hqb⟩:=hSA2.ak;clear hqa hqb;clear hR;obtain⟨vB0,vB1,vB2,fB0,fB1,fB2,rfl,rfl,hSB0,hSB1,hSB2⟩:=GVal.opened.1 hR2;obtain⟨B0,cB0,rfl,hqa,hqb⟩:=hSB0.ak;clear hqa hqb;obtain⟨B1,cB1,rfl,hqa,hqb⟩:=hSB1.ak;clear hqa hqb;obtain⟨B2,cB2,rfl,hqa,hqb⟩:=hSB2.ak;clear hqa hqb;clear hR2
 go_enter Try.func22,Try.ntmps22
 go_wp2_with fail
 have hP0:∀wx:World,Below w.heap.size w wx→Calls Try.prog 24 _ wx (dZ wx):=fun wx hwx=>hE0 wx _ _ _ _ (hSA0.below hwx) (hSB0.below hwx)
 refine(hP0 _ ?_).mono ?_
 ·exact((a_ _ _).alloc (by simp) _).alloc (by simp;try omega) _
 rintro e w1 ⟨rfl,hb1⟩;obtain⟨hr10,hr11,hz1,G1⟩:=qw hb1;clear hb1;have k10:=hr10.cell;have k11:=hr11.cell
 go_wp2_with fail
 have hP1:∀wx:World,Below w.heap.size w wx→Calls Try.prog 60 _ wx (dZ wx):=fun wx hwx=>hE1 wx _ _ _ _ (hSA1.below hwx) (hSB1.below hwx)
 refine(hP1 _ ?_).mono ?_
 ·exact G1
 rintro e w2 ⟨rfl,hb2⟩;have hr20:=hr10.below hb2;have hr21:=hr11.below hb2;have hz2:w.heap.size+2≤w2.heap.size:=l_ hz1 hb2.size;have G2:Below w.heap.size w w2:=G1.trans (hb2.mono (by omega));clear hb2;have k20:=hr20.cell;have k21:=hr21.cell
 go_wp2_with fail
 have hP2:∀wx:World,Below w.heap.size w wx→Calls Try.prog 61 _ wx (dZ wx):=fun wx hwx=>hE2 wx _ _ _ _ (hSA2.below hwx) (hSB2.below hwx)
 refine(hP2 _ ?_).mono ?_
 ·exact G2
 rintro e w3 ⟨rfl,hb3⟩;have hr30:=hr20.below hb3;have hr31:=hr21.below hb3;have hz3:w.heap.size+2≤w3.heap.size:=l_ hz2 hb3.size;have G3:Below w.heap.size w w3:=G2.trans (hb3.mono (by omega));clear hb3;have k30:=hr30.cell;have k31:=hr31.cell
 go_wp2_with fail
 go_ret
 exact⟨rfl,G3⟩
theorem xR(l:List GVal)(hE:∀x∈l,iK Try.prog 22 x.toD):fZ Try.prog 24 (l.map GVal.toD):=by
 intro w f1 f2 v1 v2 hS1 hS2;obtain⟨A,c,rfl,hl,hc⟩:=hS1.ak;obtain⟨A',c',rfl,hl',hc'⟩:=hS2.ak;have hm:l.length≤9223372036854775807:=by unfold maxLen at hc;omega
 clear hl hc hl' hc'
 go_enter Try.func24,Try.ntmps24
 go_wp2_with fail
 go_loopw [5] (fun iv wr=>∃(k:Nat),k≤l.length∧iv= .int .i64 k∧Below w.heap.size w wr) (fun iv _=>l.length - (intOf iv).toNat)
 case atStart=>exact⟨0,by omega,rfl,a_ _ _⟩
 case round=>
  obtain⟨k,hk,rfl,hb⟩:=hrel;by_cases hlt:k<l.length
  ·have hd:(l.map GVal.toD)[k]? =some (GVal.toD l[k]):=by rw[e_,b_ hlt];rfl
   obtain⟨b1,o1,fi1,ci1,rfl,hbb1,hbf1,hri1,hfi1,hat1⟩:=hS1.elem GVal.szs hd;obtain⟨b2,o2,fi2,ci2,rfl,hbb2,hbf2,hri2,hfi2,hat2⟩:=hS2.elem GVal.szs hd;have hi1:0≤(k:Int):=by omega
   have hi2:(k:Int)<l.length:=by omega
   have hri1':=hri1;have hri2':=hri2;obtain⟨v10,v11,v12,g10,g11,g12,rfl,rfl,hV10,hV11,hV12⟩:=GVal.opened.1 hri1;obtain⟨A10,c10,rfl,hqa,hqb⟩:=hV10.ak;clear hqa hqb hV10;obtain⟨A11,c11,rfl,hqa,hqb⟩:=hV11.ak;clear hqa hqb hV11;obtain⟨A12,c12,rfl,hqa,hqb⟩:=hV12.ak;clear hqa hqb hV12;have q10:wr.cell? ⟨b1,o1+k*7,none⟩=some (.int .i64 l[k].kind):=(hb.cell (p:=⟨b1,o1+k*7,none⟩) hbb1).trans (hat1.head);have q11:wr.cell? ⟨b1,o1+k*7+1,none⟩=some (.int .i64 l[k].n):=(hb.cell (p:=⟨b1,o1+k*7+1,none⟩) hbb1).trans (hat1.nth 1 rfl);have q12:wr.cell? ⟨b1,o1+k*7+2,none⟩=some (.int .i64 l[k].step):=(hb.cell (p:=⟨b1,o1+k*7+2,none⟩) hbb1).trans (hat1.nth 2 rfl);have q13:wr.cell? ⟨b1,o1+k*7+3,none⟩=some (.string l[k].text):=(hb.cell (p:=⟨b1,o1+k*7+3,none⟩) hbb1).trans (hat1.nth 3 rfl);have q14:wr.cell? ⟨b1,o1+k*7+4,none⟩=some (.slice A10 l[k].list.length c10):=(hb.cell (p:=⟨b1,o1+k*7+4,none⟩) hbb1).trans (hat1.nth 4 rfl);have q15:wr.cell? ⟨b1,o1+k*7+5,none⟩=some (.slice A11 l[k].cols.length c11):=(hb.cell (p:=⟨b1,o1+k*7+5,none⟩) hbb1).trans (hat1.nth 5 rfl);have q16:wr.cell? ⟨b1,o1+k*7+6,none⟩=some (.slice A12 l[k].rows.length c12):=(hb.cell (p:=⟨b1,o1+k*7+6,none⟩) hbb1).trans (hat1.nth 6 rfl);obtain⟨v20,v21,v22,g20,g21,g22,rfl,rfl,hV20,hV21,hV22⟩:=GVal.opened.1 hri2;obtain⟨A20,c20,rfl,hqa,hqb⟩:=hV20.ak;clear hqa hqb hV20;obtain⟨A21,c21,rfl,hqa,hqb⟩:=hV21.ak;clear hqa hqb hV21;obtain⟨A22,c22,rfl,hqa,hqb⟩:=hV22.ak;clear hqa hqb hV22;have q20:wr.cell? ⟨b2,o2+k*7,none⟩=some (.int .i64 l[k].kind):=(hb.cell (p:=⟨b2,o2+k*7,none⟩) hbb2).trans (hat2.head);have q21:wr.cell? ⟨b2,o2+k*7+1,none⟩=some (.int .i64 l[k].n):=(hb.cell (p:=⟨b2,o2+k*7+1,none⟩) hbb2).trans (hat2.nth 1 rfl);have q22:wr.cell? ⟨b2,o2+k*7+2,none⟩=some (.int .i64 l[k].step):=(hb.cell (p:=⟨b2,o2+k*7+2,none⟩) hbb2).trans (hat2.nth 2 rfl);have q23:wr.cell? ⟨b2,o2+k*7+3,none⟩=some (.string l[k].text):=(hb.cell (p:=⟨b2,o2+k*7+3,none⟩) hbb2).trans (hat2.nth 3 rfl);have q24:wr.cell? ⟨b2,o2+k*7+4,none⟩=some (.slice A20 l[k].list.length c20):=(hb.cell (p:=⟨b2,o2+k*7+4,none⟩) hbb2).trans (hat2.nth 4 rfl);have q25:wr.cell? ⟨b2,o2+k*7+5,none⟩=some (.slice A21 l[k].cols.length c21):=(hb.cell (p:=⟨b2,o2+k*7+5,none⟩) hbb2).trans (hat2.nth 5 rfl);have q26:wr.cell? ⟨b2,o2+k*7+6,none⟩=some (.slice A22 l[k].rows.length c22):=(hb.cell (p:=⟨b2,o2+k*7+6,none⟩) hbb2).trans (hat2.nth 6 rfl);clear hat1 hat2 hd hri1 hri2;have hbr1:b1<wr.heap.size:=k_ hbb1 hb.size;have hbr2:b2<wr.heap.size:=k_ hbb2 hb.size;have hP:∀wx:World,Below wr.heap.size wr wx→Calls Try.prog 22 _ wx (dZ wx):=fun wx hwx=>hE _ (f_ hlt) wx _ _ _ _ ((hri1'.same (fun x hx=>hb.block x (hS1.lt x (hfi1 x hx))) hb.size).below hwx) ((hri2'.same (fun x hx=>hb.block x (hS2.lt x (hfi2 x hx))) hb.size).below hwx)
   clear hri1' hri2' hE
   go_wp2_with fail
   go_region_held3 (fun w'=>w'.cell? ⟨b1,o1+k*7,none⟩=some (.int .i64 l[k].kind)∧w'.cell? ⟨b1,o1+k*7+1,none⟩=some (.int .i64 l[k].n)∧w'.cell? ⟨b1,o1+k*7+2,none⟩=some (.int .i64 l[k].step)∧w'.cell? ⟨b1,o1+k*7+3,none⟩=some (.string l[k].text)∧w'.cell? ⟨b1,o1+k*7+4,none⟩=some (.slice A10 l[k].list.length c10)∧w'.cell? ⟨b1,o1+k*7+5,none⟩=some (.slice A11 l[k].cols.length c11)∧w'.cell? ⟨b1,o1+k*7+6,none⟩=some (.slice A12 l[k].rows.length c12)∧w'.cell? ⟨b2,o2+k*7,none⟩=some (.int .i64 l[k].kind)∧w'.cell? ⟨b2,o2+k*7+1,none⟩=some (.int .i64 l[k].n)∧w'.cell? ⟨b2,o2+k*7+2,none⟩=some (.int .i64 l[k].step)∧w'.cell? ⟨b2,o2+k*7+3,none⟩=some (.string l[k].text)∧w'.cell? ⟨b2,o2+k*7+4,none⟩=some (.slice A20 l[k].list.length c20)∧w'.cell? ⟨b2,o2+k*7+5,none⟩=some (.slice A21 l[k].cols.length c21)∧w'.cell? ⟨b2,o2+k*7+6,none⟩=some (.slice A22 l[k].rows.length c22)) (go_keep)
    ((go_at_call 22;refine(hP _ ?_).mono ?_;(exact(a_ _ _).drew);rintro e w1 ⟨rfl,hb1⟩;have hc1:∀o,w1.cell? ⟨b1,o,none⟩=wr.cell? ⟨b1,o,none⟩:=fun o=>hb1.cell (p:=⟨b1,o,none⟩) hbr1;have hc2:∀o,w1.cell? ⟨b2,o,none⟩=wr.cell? ⟨b2,o,none⟩:=fun o=>hb1.cell (p:=⟨b2,o,none⟩) hbr2))
   go_wp2_with fail
   go_roundw
   case rel=>exact⟨k+1,by omega,by go_num,hb.drew.trans (hb1.mono hb.size)⟩
   case measure=>simp[intOf];omega
  ·go_wp2_with fail
   go_ret
   exact⟨rfl,hb⟩
theorem GVal.kG(x:GVal):iK Try.prog 22 x.toD:=GVal.iD x (xR _ fun y hy=>GVal.kG y) (Bo _) (IB _)
termination_by s_ x
decreasing_by exact GVal.lt_of_mem hy
theorem GExpr.iD(x:GExpr)(hE0:fZ Try.prog 98 (x.args.map GExpr.toD)):iK Try.prog 89 x.toD:=by
 intro w f1 f2 cs1 cs2 hR hR2;obtain⟨vA0,fA0,rfl,rfl,hSA0⟩:=GExpr.opened.1 hR;obtain⟨A0,cA0,rfl,hqa,hqb⟩:=hSA0.ak;clear hqa hqb;clear hR;obtain⟨vB0,fB0,rfl,rfl,hSB0⟩:=GExpr.opened.1 hR2;obtain⟨B0,cB0,rfl,hqa,hqb⟩:=hSB0.ak;clear hqa hqb;clear hR2
 go_enter Try.func89,Try.ntmps89
 go_wp2_with fail
 have hP0:∀wx:World,Below w.heap.size w wx→Calls Try.prog 98 _ wx (dZ wx):=fun wx hwx=>hE0 wx _ _ _ _ (hSA0.below hwx) (hSB0.below hwx)
 refine(hP0 _ ?_).mono ?_
 ·exact((a_ _ _).alloc (by simp) _).alloc (by simp;try omega) _
 rintro e w1 ⟨rfl,hb1⟩;obtain⟨hr10,hr11,hz1,G1⟩:=qw hb1;clear hb1;have k10:=hr10.cell;have k11:=hr11.cell
 go_wp2_with fail
 go_ret
 exact⟨rfl,G1⟩
theorem zx(l:List GExpr)(hE:∀x∈l,iK Try.prog 89 x.toD):fZ Try.prog 98 (l.map GExpr.toD):=by
 intro w f1 f2 v1 v2 hS1 hS2;obtain⟨A,c,rfl,hl,hc⟩:=hS1.ak;obtain⟨A',c',rfl,hl',hc'⟩:=hS2.ak;have hm:l.length≤9223372036854775807:=by unfold maxLen at hc;omega
 clear hl hc hl' hc'
 go_enter Try.func98,Try.ntmps98
 go_wp2_with fail
 go_loopw [5] (fun iv wr=>∃(k:Nat),k≤l.length∧iv= .int .i64 k∧Below w.heap.size w wr) (fun iv _=>l.length - (intOf iv).toNat)
 case atStart=>exact⟨0,by omega,rfl,a_ _ _⟩
 case round=>
  obtain⟨k,hk,rfl,hb⟩:=hrel;by_cases hlt:k<l.length
  ·have hd:(l.map GExpr.toD)[k]? =some (GExpr.toD l[k]):=by rw[e_,b_ hlt];rfl
   obtain⟨b1,o1,fi1,ci1,rfl,hbb1,hbf1,hri1,hfi1,hat1⟩:=hS1.elem GExpr.szs hd;obtain⟨b2,o2,fi2,ci2,rfl,hbb2,hbf2,hri2,hfi2,hat2⟩:=hS2.elem GExpr.szs hd;have hi1:0≤(k:Int):=by omega
   have hi2:(k:Int)<l.length:=by omega
   have hri1':=hri1;have hri2':=hri2;obtain⟨v10,g10,rfl,rfl,hV10⟩:=GExpr.opened.1 hri1;obtain⟨A10,c10,rfl,hqa,hqb⟩:=hV10.ak;clear hqa hqb hV10;have q10:wr.cell? ⟨b1,o1+k*4,none⟩=some (.int .i64 l[k].kind):=(hb.cell (p:=⟨b1,o1+k*4,none⟩) hbb1).trans (hat1.head);have q11:wr.cell? ⟨b1,o1+k*4+1,none⟩=some (.int .i64 l[k].n):=(hb.cell (p:=⟨b1,o1+k*4+1,none⟩) hbb1).trans (hat1.nth 1 rfl);have q12:wr.cell? ⟨b1,o1+k*4+2,none⟩=some (.string l[k].text):=(hb.cell (p:=⟨b1,o1+k*4+2,none⟩) hbb1).trans (hat1.nth 2 rfl);have q13:wr.cell? ⟨b1,o1+k*4+3,none⟩=some (.slice A10 l[k].args.length c10):=(hb.cell (p:=⟨b1,o1+k*4+3,none⟩) hbb1).trans (hat1.nth 3 rfl);obtain⟨v20,g20,rfl,rfl,hV20⟩:=GExpr.opened.1 hri2;obtain⟨A20,c20,rfl,hqa,hqb⟩:=hV20.ak;clear hqa hqb hV20;have q20:wr.cell? ⟨b2,o2+k*4,none⟩=some (.int .i64 l[k].kind):=(hb.cell (p:=⟨b2,o2+k*4,none⟩) hbb2).trans (hat2.head);have q21:wr.cell? ⟨b2,o2+k*4+1,none⟩=some (.int .i64 l[k].n):=(hb.cell (p:=⟨b2,o2+k*4+1,none⟩) hbb2).trans (hat2.nth 1 rfl);have q22:wr.cell? ⟨b2,o2+k*4+2,none⟩=some (.string l[k].text):=(hb.cell (p:=⟨b2,o2+k*4+2,none⟩) hbb2).trans (hat2.nth 2 rfl);have q23:wr.cell? ⟨b2,o2+k*4+3,none⟩=some (.slice A20 l[k].args.length c20):=(hb.cell (p:=⟨b2,o2+k*4+3,none⟩) hbb2).trans (hat2.nth 3 rfl);clear hat1 hat2 hd hri1 hri2;have hbr1:b1<wr.heap.size:=k_ hbb1 hb.size;have hbr2:b2<wr.heap.size:=k_ hbb2 hb.size;have hP:∀wx:World,Below wr.heap.size wr wx→Calls Try.prog 89 _ wx (dZ wx):=fun wx hwx=>hE _ (f_ hlt) wx _ _ _ _ ((hri1'.same (fun x hx=>hb.block x (hS1.lt x (hfi1 x hx))) hb.size).below hwx) ((hri2'.same (fun x hx=>hb.block x (hS2.lt x (hfi2 x hx))) hb.size).below hwx)
   clear hri1' hri2' hE
   go_wp2_with fail
   go_region_held3 (fun w'=>w'.cell? ⟨b1,o1+k*4,none⟩=some (.int .i64 l[k].kind)∧w'.cell? ⟨b1,o1+k*4+1,none⟩=some (.int .i64 l[k].n)∧w'.cell? ⟨b1,o1+k*4+2,none⟩=some (.string l[k].text)∧w'.cell? ⟨b1,o1+k*4+3,none⟩=some (.slice A10 l[k].args.length c10)∧w'.cell? ⟨b2,o2+k*4,none⟩=some (.int .i64 l[k].kind)∧w'.cell? ⟨b2,o2+k*4+1,none⟩=some (.int .i64 l[k].n)∧w'.cell? ⟨b2,o2+k*4+2,none⟩=some (.string l[k].text)∧w'.cell? ⟨b2,o2+k*4+3,none⟩=some (.slice A20 l[k].args.length c20)) (go_keep)
    ((go_at_call 89;refine(hP _ ?_).mono ?_;(exact(a_ _ _).drew);rintro e w1 ⟨rfl,hb1⟩;have hc1:∀o,w1.cell? ⟨b1,o,none⟩=wr.cell? ⟨b1,o,none⟩:=fun o=>hb1.cell (p:=⟨b1,o,none⟩) hbr1;have hc2:∀o,w1.cell? ⟨b2,o,none⟩=wr.cell? ⟨b2,o,none⟩:=fun o=>hb1.cell (p:=⟨b2,o,none⟩) hbr2))
   go_wp2_with fail
   go_roundw
   case rel=>exact⟨k+1,by omega,by go_num,hb.drew.trans (hb1.mono hb.size)⟩
   case measure=>simp[intOf];omega
  ·go_wp2_with fail
   go_ret
   exact⟨rfl,hb⟩
theorem GExpr.kG(x:GExpr):iK Try.prog 89 x.toD:=GExpr.iD x (zx _ fun y hy=>GExpr.kG y)
termination_by s_ x
decreasing_by exact GExpr.lt_of_mem hy
theorem GPart.iD(x:GPart)(hE0:iK Try.prog 89 x.expr.toD)(hE1:iK Try.prog 22 x.value.toD):iK Try.prog 62 x.toD:=by
 intro w f1 f2 cs1 cs2 hR hR2;obtain⟨vA0,vA1,vA2,vA3,fA0,fA1,fA2,fA3,rfl,rfl,hSA0,hSA1,hSA2,hSA3⟩:=GPart.opened.1 hR;obtain⟨A0,cA0,rfl,hqa,hqb⟩:=hSA0.ak;clear hqa hqb;obtain⟨A1,cA1,rfl,hqa,hqb⟩:=hSA1.ak;clear hqa hqb;obtain⟨A2,cA2,rfl,hqa,hqb⟩:=hSA2.ak;clear hqa hqb;obtain⟨A3,cA3,rfl,hqa,hqb⟩:=hSA3.ak;clear hqa hqb;clear hR;obtain⟨vB0,vB1,vB2,vB3,fB0,fB1,fB2,fB3,rfl,rfl,hSB0,hSB1,hSB2,hSB3⟩:=GPart.opened.1 hR2;obtain⟨B0,cB0,rfl,hqa,hqb⟩:=hSB0.ak;clear hqa hqb;obtain⟨B1,cB1,rfl,hqa,hqb⟩:=hSB1.ak;clear hqa hqb;obtain⟨B2,cB2,rfl,hqa,hqb⟩:=hSB2.ak;clear hqa hqb;obtain⟨B3,cB3,rfl,hqa,hqb⟩:=hSB3.ak;clear hqa hqb;clear hR2
 go_enter Try.func62,Try.ntmps62
 go_wp2_with fail
 have hP0:∀wx:World,Below w.heap.size w wx→Calls Try.prog 89 _ wx (dZ wx):=fun wx hwx=>hE0 wx _ _ _ _ (GExpr.opened.2 ⟨_,_,rfl,rfl,hSA0.below hwx⟩) (GExpr.opened.2 ⟨_,_,rfl,rfl,hSB0.below hwx⟩)
 refine(hP0 _ ?_).mono ?_
 ·exact((a_ _ _).alloc (by simp) _).alloc (by simp;try omega) _
 rintro e w1 ⟨rfl,hb1⟩;obtain⟨hr10,hr11,hz1,G1⟩:=qw hb1;clear hb1;have k10:=hr10.cell;have k11:=hr11.cell
 go_wp2_with fail
 have hP1:∀wx:World,Below w.heap.size w wx→Calls Try.prog 22 _ wx (dZ wx):=fun wx hwx=>hE1 wx _ _ _ _ (GVal.opened.2 ⟨_,_,_,_,_,_,rfl,rfl,hSA1.below hwx,hSA2.below hwx,hSA3.below hwx⟩) (GVal.opened.2 ⟨_,_,_,_,_,_,rfl,rfl,hSB1.below hwx,hSB2.below hwx,hSB3.below hwx⟩)
 refine(hP1 _ ?_).mono ?_
 ·exact G1
 rintro e w2 ⟨rfl,hb2⟩;have hr20:=hr10.below hb2;have hr21:=hr11.below hb2;have hz2:w.heap.size+2≤w2.heap.size:=l_ hz1 hb2.size;have G2:Below w.heap.size w w2:=G1.trans (hb2.mono (by omega));clear hb2;have k20:=hr20.cell;have k21:=hr21.cell
 go_wp2_with fail
 go_ret
 exact⟨rfl,G2⟩
theorem GPart.kG(x:GPart):iK Try.prog 62 x.toD:=GPart.iD x (GExpr.kG _) (GVal.kG _)
theorem GRead.iD(x:GRead)(hE0:iK Try.prog 22 x.result.toD):iK Try.prog 42 x.toD:=by
 intro w f1 f2 cs1 cs2 hR hR2;obtain⟨vA0,vA1,vA2,fA0,fA1,fA2,rfl,rfl,hSA0,hSA1,hSA2⟩:=GRead.opened.1 hR;obtain⟨A0,cA0,rfl,hqa,hqb⟩:=hSA0.ak;clear hqa hqb;obtain⟨A1,cA1,rfl,hqa,hqb⟩:=hSA1.ak;clear hqa hqb;obtain⟨A2,cA2,rfl,hqa,hqb⟩:=hSA2.ak;clear hqa hqb;clear hR;obtain⟨vB0,vB1,vB2,fB0,fB1,fB2,rfl,rfl,hSB0,hSB1,hSB2⟩:=GRead.opened.1 hR2;obtain⟨B0,cB0,rfl,hqa,hqb⟩:=hSB0.ak;clear hqa hqb;obtain⟨B1,cB1,rfl,hqa,hqb⟩:=hSB1.ak;clear hqa hqb;obtain⟨B2,cB2,rfl,hqa,hqb⟩:=hSB2.ak;clear hqa hqb;clear hR2
 go_enter Try.func42,Try.ntmps42
 go_wp2_with fail
 have hP0:∀wx:World,Below w.heap.size w wx→Calls Try.prog 22 _ wx (dZ wx):=fun wx hwx=>hE0 wx _ _ _ _ (GVal.opened.2 ⟨_,_,_,_,_,_,rfl,rfl,hSA0.below hwx,hSA1.below hwx,hSA2.below hwx⟩) (GVal.opened.2 ⟨_,_,_,_,_,_,rfl,rfl,hSB0.below hwx,hSB1.below hwx,hSB2.below hwx⟩)
 refine(hP0 _ ?_).mono ?_
 ·exact((a_ _ _).alloc (by simp) _).alloc (by simp;try omega) _
 rintro e w1 ⟨rfl,hb1⟩;obtain⟨hr10,hr11,hz1,G1⟩:=qw hb1;clear hb1;have k10:=hr10.cell;have k11:=hr11.cell
 go_wp2_with fail
 go_ret
 exact⟨rfl,G1⟩
theorem zl(l:List GRead)(hE:∀x∈l,iK Try.prog 42 x.toD):fZ Try.prog 11 (l.map GRead.toD):=by
 intro w f1 f2 v1 v2 hS1 hS2;obtain⟨A,c,rfl,hl,hc⟩:=hS1.ak;obtain⟨A',c',rfl,hl',hc'⟩:=hS2.ak;have hm:l.length≤9223372036854775807:=by unfold maxLen at hc;omega
 clear hl hc hl' hc'
 go_enter Try.func11,Try.ntmps11
 go_wp2_with fail
 go_loopw [5] (fun iv wr=>∃(k:Nat),k≤l.length∧iv= .int .i64 k∧Below w.heap.size w wr) (fun iv _=>l.length - (intOf iv).toNat)
 case atStart=>exact⟨0,by omega,rfl,a_ _ _⟩
 case round=>
  obtain⟨k,hk,rfl,hb⟩:=hrel;by_cases hlt:k<l.length
  ·have hd:(l.map GRead.toD)[k]? =some (GRead.toD l[k]):=by rw[e_,b_ hlt];rfl
   obtain⟨b1,o1,fi1,ci1,rfl,hbb1,hbf1,hri1,hfi1,hat1⟩:=hS1.elem GRead.szs hd;obtain⟨b2,o2,fi2,ci2,rfl,hbb2,hbf2,hri2,hfi2,hat2⟩:=hS2.elem GRead.szs hd;have hi1:0≤(k:Int):=by omega
   have hi2:(k:Int)<l.length:=by omega
   have hri1':=hri1;have hri2':=hri2;obtain⟨v10,v11,v12,g10,g11,g12,rfl,rfl,hV10,hV11,hV12⟩:=GRead.opened.1 hri1;obtain⟨A10,c10,rfl,hqa,hqb⟩:=hV10.ak;clear hqa hqb hV10;obtain⟨A11,c11,rfl,hqa,hqb⟩:=hV11.ak;clear hqa hqb hV11;obtain⟨A12,c12,rfl,hqa,hqb⟩:=hV12.ak;clear hqa hqb hV12;have q10:wr.cell? ⟨b1,o1+k*11,none⟩=some (.int .i64 l[k].kind):=(hb.cell (p:=⟨b1,o1+k*11,none⟩) hbb1).trans (hat1.head);have q11:wr.cell? ⟨b1,o1+k*11+1,none⟩=some (.int .i64 l[k].n):=(hb.cell (p:=⟨b1,o1+k*11+1,none⟩) hbb1).trans (hat1.nth 1 rfl);have q12:wr.cell? ⟨b1,o1+k*11+2,none⟩=some (.int .i64 l[k].time):=(hb.cell (p:=⟨b1,o1+k*11+2,none⟩) hbb1).trans (hat1.nth 2 rfl);have q13:wr.cell? ⟨b1,o1+k*11+3,none⟩=some (.string l[k].text):=(hb.cell (p:=⟨b1,o1+k*11+3,none⟩) hbb1).trans (hat1.nth 3 rfl);have q14:wr.cell? ⟨b1,o1+k*11+4,none⟩=some (.int .i64 l[k].result.kind):=(hb.cell (p:=⟨b1,o1+k*11+4,none⟩) hbb1).trans (hat1.nth 4 rfl);have q15:wr.cell? ⟨b1,o1+k*11+5,none⟩=some (.int .i64 l[k].result.n):=(hb.cell (p:=⟨b1,o1+k*11+5,none⟩) hbb1).trans (hat1.nth 5 rfl);have q16:wr.cell? ⟨b1,o1+k*11+6,none⟩=some (.int .i64 l[k].result.step):=(hb.cell (p:=⟨b1,o1+k*11+6,none⟩) hbb1).trans (hat1.nth 6 rfl);have q17:wr.cell? ⟨b1,o1+k*11+7,none⟩=some (.string l[k].result.text):=(hb.cell (p:=⟨b1,o1+k*11+7,none⟩) hbb1).trans (hat1.nth 7 rfl);have q18:wr.cell? ⟨b1,o1+k*11+8,none⟩=some (.slice A10 l[k].result.list.length c10):=(hb.cell (p:=⟨b1,o1+k*11+8,none⟩) hbb1).trans (hat1.nth 8 rfl);have q19:wr.cell? ⟨b1,o1+k*11+9,none⟩=some (.slice A11 l[k].result.cols.length c11):=(hb.cell (p:=⟨b1,o1+k*11+9,none⟩) hbb1).trans (hat1.nth 9 rfl);have q110:wr.cell? ⟨b1,o1+k*11+10,none⟩=some (.slice A12 l[k].result.rows.length c12):=(hb.cell (p:=⟨b1,o1+k*11+10,none⟩) hbb1).trans (hat1.nth 10 rfl);obtain⟨v20,v21,v22,g20,g21,g22,rfl,rfl,hV20,hV21,hV22⟩:=GRead.opened.1 hri2;obtain⟨A20,c20,rfl,hqa,hqb⟩:=hV20.ak;clear hqa hqb hV20;obtain⟨A21,c21,rfl,hqa,hqb⟩:=hV21.ak;clear hqa hqb hV21;obtain⟨A22,c22,rfl,hqa,hqb⟩:=hV22.ak;clear hqa hqb hV22;have q20:wr.cell? ⟨b2,o2+k*11,none⟩=some (.int .i64 l[k].kind):=(hb.cell (p:=⟨b2,o2+k*11,none⟩) hbb2).trans (hat2.head);have q21:wr.cell? ⟨b2,o2+k*11+1,none⟩=some (.int .i64 l[k].n):=(hb.cell (p:=⟨b2,o2+k*11+1,none⟩) hbb2).trans (hat2.nth 1 rfl);have q22:wr.cell? ⟨b2,o2+k*11+2,none⟩=some (.int .i64 l[k].time):=(hb.cell (p:=⟨b2,o2+k*11+2,none⟩) hbb2).trans (hat2.nth 2 rfl);have q23:wr.cell? ⟨b2,o2+k*11+3,none⟩=some (.string l[k].text):=(hb.cell (p:=⟨b2,o2+k*11+3,none⟩) hbb2).trans (hat2.nth 3 rfl);have q24:wr.cell? ⟨b2,o2+k*11+4,none⟩=some (.int .i64 l[k].result.kind):=(hb.cell (p:=⟨b2,o2+k*11+4,none⟩) hbb2).trans (hat2.nth 4 rfl);have q25:wr.cell? ⟨b2,o2+k*11+5,none⟩=some (.int .i64 l[k].result.n):=(hb.cell (p:=⟨b2,o2+k*11+5,none⟩) hbb2).trans (hat2.nth 5 rfl);have q26:wr.cell? ⟨b2,o2+k*11+6,none⟩=some (.int .i64 l[k].result.step):=(hb.cell (p:=⟨b2,o2+k*11+6,none⟩) hbb2).trans (hat2.nth 6 rfl);have q27:wr.cell? ⟨b2,o2+k*11+7,none⟩=some (.string l[k].result.text):=(hb.cell (p:=⟨b2,o2+k*11+7,none⟩) hbb2).trans (hat2.nth 7 rfl);have q28:wr.cell? ⟨b2,o2+k*11+8,none⟩=some (.slice A20 l[k].result.list.length c20):=(hb.cell (p:=⟨b2,o2+k*11+8,none⟩) hbb2).trans (hat2.nth 8 rfl);have q29:wr.cell? ⟨b2,o2+k*11+9,none⟩=some (.slice A21 l[k].result.cols.length c21):=(hb.cell (p:=⟨b2,o2+k*11+9,none⟩) hbb2).trans (hat2.nth 9 rfl);have q210:wr.cell? ⟨b2,o2+k*11+10,none⟩=some (.slice A22 l[k].result.rows.length c22):=(hb.cell (p:=⟨b2,o2+k*11+10,none⟩) hbb2).trans (hat2.nth 10 rfl);clear hat1 hat2 hd hri1 hri2;have hbr1:b1<wr.heap.size:=k_ hbb1 hb.size;have hbr2:b2<wr.heap.size:=k_ hbb2 hb.size;have hP:∀wx:World,Below wr.heap.size wr wx→Calls Try.prog 42 _ wx (dZ wx):=fun wx hwx=>hE _ (f_ hlt) wx _ _ _ _ ((hri1'.same (fun x hx=>hb.block x (hS1.lt x (hfi1 x hx))) hb.size).below hwx) ((hri2'.same (fun x hx=>hb.block x (hS2.lt x (hfi2 x hx))) hb.size).below hwx)
   clear hri1' hri2' hE
   go_wp2_with fail
   go_region_held3 (fun w'=>w'.cell? ⟨b1,o1+k*11,none⟩=some (.int .i64 l[k].kind)∧w'.cell? ⟨b1,o1+k*11+1,none⟩=some (.int .i64 l[k].n)∧w'.cell? ⟨b1,o1+k*11+2,none⟩=some (.int .i64 l[k].time)∧w'.cell? ⟨b1,o1+k*11+3,none⟩=some (.string l[k].text)∧w'.cell? ⟨b1,o1+k*11+4,none⟩=some (.int .i64 l[k].result.kind)∧w'.cell? ⟨b1,o1+k*11+5,none⟩=some (.int .i64 l[k].result.n)∧w'.cell? ⟨b1,o1+k*11+6,none⟩=some (.int .i64 l[k].result.step)∧w'.cell? ⟨b1,o1+k*11+7,none⟩=some (.string l[k].result.text)∧w'.cell? ⟨b1,o1+k*11+8,none⟩=some (.slice A10 l[k].result.list.length c10)∧w'.cell? ⟨b1,o1+k*11+9,none⟩=some (.slice A11 l[k].result.cols.length c11)∧w'.cell? ⟨b1,o1+k*11+10,none⟩=some (.slice A12 l[k].result.rows.length c12)∧w'.cell? ⟨b2,o2+k*11,none⟩=some (.int .i64 l[k].kind)∧w'.cell? ⟨b2,o2+k*11+1,none⟩=some (.int .i64 l[k].n)∧w'.cell? ⟨b2,o2+k*11+2,none⟩=some (.int .i64 l[k].time)∧w'.cell? ⟨b2,o2+k*11+3,none⟩=some (.string l[k].text)∧w'.cell? ⟨b2,o2+k*11+4,none⟩=some (.int .i64 l[k].result.kind)∧w'.cell? ⟨b2,o2+k*11+5,none⟩=some (.int .i64 l[k].result.n)∧w'.cell? ⟨b2,o2+k*11+6,none⟩=some (.int .i64 l[k].result.step)∧w'.cell? ⟨b2,o2+k*11+7,none⟩=some (.string l[k].result.text)∧w'.cell? ⟨b2,o2+k*11+8,none⟩=some (.slice A20 l[k].result.list.length c20)∧w'.cell? ⟨b2,o2+k*11+9,none⟩=some (.slice A21 l[k].result.cols.length c21)∧w'.cell? ⟨b2,o2+k*11+10,none⟩=some (.slice A22 l[k].result.rows.length c22)) (go_keep)
    ((go_at_call 42;refine(hP _ ?_).mono ?_;(exact(a_ _ _).drew);rintro e w1 ⟨rfl,hb1⟩;have hc1:∀o,w1.cell? ⟨b1,o,none⟩=wr.cell? ⟨b1,o,none⟩:=fun o=>hb1.cell (p:=⟨b1,o,none⟩) hbr1;have hc2:∀o,w1.cell? ⟨b2,o,none⟩=wr.cell? ⟨b2,o,none⟩:=fun o=>hb1.cell (p:=⟨b2,o,none⟩) hbr2))
   go_wp2_with fail
   go_roundw
   case rel=>exact⟨k+1,by omega,by go_num,hb.drew.trans (hb1.mono hb.size)⟩
   case measure=>simp[intOf];omega
  ·go_wp2_with fail
   go_ret
   exact⟨rfl,hb⟩
theorem GRead.kG(x:GRead):iK Try.prog 42 x.toD:=GRead.iD x (GVal.kG _)
theorem wu(l:List GRead):fZ Try.prog 11 (l.map GRead.toD):=zl l fun x _=>x.kG
theorem GTape.iD(x:GTape)(hE0:fZ Try.prog 11 (x.reads.map GRead.toD)):iK Try.prog 43 x.toD:=by
 intro w f1 f2 cs1 cs2 hR hR2;obtain⟨vA0,fA0,rfl,rfl,hSA0⟩:=GTape.opened.1 hR;obtain⟨A0,cA0,rfl,hqa,hqb⟩:=hSA0.ak;clear hqa hqb;clear hR;obtain⟨vB0,fB0,rfl,rfl,hSB0⟩:=GTape.opened.1 hR2;obtain⟨B0,cB0,rfl,hqa,hqb⟩:=hSB0.ak;clear hqa hqb;clear hR2
 go_enter Try.func43,Try.ntmps43
 go_wp2_with fail
 have hP0:∀wx:World,Below w.heap.size w wx→Calls Try.prog 11 _ wx (dZ wx):=fun wx hwx=>hE0 wx _ _ _ _ (hSA0.below hwx) (hSB0.below hwx)
 refine(hP0 _ ?_).mono ?_
 ·exact((a_ _ _).alloc (by simp) _).alloc (by simp;try omega) _
 rintro e w1 ⟨rfl,hb1⟩;obtain⟨hr10,hr11,hz1,G1⟩:=qw hb1;clear hb1;have k10:=hr10.cell;have k11:=hr11.cell
 go_wp2_with fail
 go_ret
 exact⟨rfl,G1⟩
theorem y9(l:List GTape)(hE:∀x∈l,iK Try.prog 43 x.toD):fZ Try.prog 12 (l.map GTape.toD):=by
 intro w f1 f2 v1 v2 hS1 hS2;obtain⟨A,c,rfl,hl,hc⟩:=hS1.ak;obtain⟨A',c',rfl,hl',hc'⟩:=hS2.ak;have hm:l.length≤9223372036854775807:=by unfold maxLen at hc;omega
 clear hl hc hl' hc'
 go_enter Try.func12,Try.ntmps12
 go_wp2_with fail
 go_loopw [5] (fun iv wr=>∃(k:Nat),k≤l.length∧iv= .int .i64 k∧Below w.heap.size w wr) (fun iv _=>l.length - (intOf iv).toNat)
 case atStart=>exact⟨0,by omega,rfl,a_ _ _⟩
 case round=>
  obtain⟨k,hk,rfl,hb⟩:=hrel;by_cases hlt:k<l.length
  ·have hd:(l.map GTape.toD)[k]? =some (GTape.toD l[k]):=by rw[e_,b_ hlt];rfl
   obtain⟨b1,o1,fi1,ci1,rfl,hbb1,hbf1,hri1,hfi1,hat1⟩:=hS1.elem GTape.szs hd;obtain⟨b2,o2,fi2,ci2,rfl,hbb2,hbf2,hri2,hfi2,hat2⟩:=hS2.elem GTape.szs hd;have hi1:0≤(k:Int):=by omega
   have hi2:(k:Int)<l.length:=by omega
   have hri1':=hri1;have hri2':=hri2;obtain⟨v10,g10,rfl,rfl,hV10⟩:=GTape.opened.1 hri1;obtain⟨A10,c10,rfl,hqa,hqb⟩:=hV10.ak;clear hqa hqb hV10;have q10:wr.cell? ⟨b1,o1+k*3,none⟩=some (.int .i64 l[k].cell):=(hb.cell (p:=⟨b1,o1+k*3,none⟩) hbb1).trans (hat1.head);have q11:wr.cell? ⟨b1,o1+k*3+1,none⟩=some (.int .i64 l[k].ver):=(hb.cell (p:=⟨b1,o1+k*3+1,none⟩) hbb1).trans (hat1.nth 1 rfl);have q12:wr.cell? ⟨b1,o1+k*3+2,none⟩=some (.slice A10 l[k].reads.length c10):=(hb.cell (p:=⟨b1,o1+k*3+2,none⟩) hbb1).trans (hat1.nth 2 rfl);obtain⟨v20,g20,rfl,rfl,hV20⟩:=GTape.opened.1 hri2;obtain⟨A20,c20,rfl,hqa,hqb⟩:=hV20.ak;clear hqa hqb hV20;have q20:wr.cell? ⟨b2,o2+k*3,none⟩=some (.int .i64 l[k].cell):=(hb.cell (p:=⟨b2,o2+k*3,none⟩) hbb2).trans (hat2.head);have q21:wr.cell? ⟨b2,o2+k*3+1,none⟩=some (.int .i64 l[k].ver):=(hb.cell (p:=⟨b2,o2+k*3+1,none⟩) hbb2).trans (hat2.nth 1 rfl);have q22:wr.cell? ⟨b2,o2+k*3+2,none⟩=some (.slice A20 l[k].reads.length c20):=(hb.cell (p:=⟨b2,o2+k*3+2,none⟩) hbb2).trans (hat2.nth 2 rfl);clear hat1 hat2 hd hri1 hri2;have hbr1:b1<wr.heap.size:=k_ hbb1 hb.size;have hbr2:b2<wr.heap.size:=k_ hbb2 hb.size;have hP:∀wx:World,Below wr.heap.size wr wx→Calls Try.prog 43 _ wx (dZ wx):=fun wx hwx=>hE _ (f_ hlt) wx _ _ _ _ ((hri1'.same (fun x hx=>hb.block x (hS1.lt x (hfi1 x hx))) hb.size).below hwx) ((hri2'.same (fun x hx=>hb.block x (hS2.lt x (hfi2 x hx))) hb.size).below hwx)
   clear hri1' hri2' hE
   go_wp2_with fail
   go_region_held3 (fun w'=>w'.cell? ⟨b1,o1+k*3,none⟩=some (.int .i64 l[k].cell)∧w'.cell? ⟨b1,o1+k*3+1,none⟩=some (.int .i64 l[k].ver)∧w'.cell? ⟨b1,o1+k*3+2,none⟩=some (.slice A10 l[k].reads.length c10)∧w'.cell? ⟨b2,o2+k*3,none⟩=some (.int .i64 l[k].cell)∧w'.cell? ⟨b2,o2+k*3+1,none⟩=some (.int .i64 l[k].ver)∧w'.cell? ⟨b2,o2+k*3+2,none⟩=some (.slice A20 l[k].reads.length c20)) (go_keep)
    ((go_at_call 43;refine(hP _ ?_).mono ?_;(exact(a_ _ _).drew);rintro e w1 ⟨rfl,hb1⟩;have hc1:∀o,w1.cell? ⟨b1,o,none⟩=wr.cell? ⟨b1,o,none⟩:=fun o=>hb1.cell (p:=⟨b1,o,none⟩) hbr1;have hc2:∀o,w1.cell? ⟨b2,o,none⟩=wr.cell? ⟨b2,o,none⟩:=fun o=>hb1.cell (p:=⟨b2,o,none⟩) hbr2))
   go_wp2_with fail
   go_roundw
   case rel=>exact⟨k+1,by omega,by go_num,hb.drew.trans (hb1.mono hb.size)⟩
   case measure=>simp[intOf];omega
  ·go_wp2_with fail
   go_ret
   exact⟨rfl,hb⟩
theorem GTape.kG(x:GTape):iK Try.prog 43 x.toD:=GTape.iD x (wu _)
theorem iR(l:List GTape):fZ Try.prog 12 (l.map GTape.toD):=y9 l fun x _=>x.kG
end Go.Proofs.Ytagaefgglphkgaa
