/-
  Texts joined: Marks Box PartMark.
-/
import Derived.Test.YtagaefgglphkgaaJA
set_option maxHeartbeats 4000000
set_option maxRecDepth 20000
set_option linter.unusedSimpArgs false
set_option linter.unusedVariables false
namespace Go.Proofs.Ytagaefgglphkgaa
open Go.RowKit
open List renaming length_map→a_,getElem_map→b_,mem_append_right→e_,mem_append_left→f_,take_of_length_le→g_,cons_append→h_,getElem_mem→i_,nil_append→j_,nodup_append→k_,append_nil→n_,mem_append→o_,not_mem_nil→p_
open Nat renaming lt_of_lt_of_le→c_,le_refl→m_,mul_one→q_,le_trans→s_
open Lib renaming hid→d_
open Below renaming refl→l_
theorem dL{x:Nat}:x∉([]:List Nat):=by simp
theorem gK{x:Nat}{a b:List Nat}(h:x∉a)(k:x∉b):x∉a++b:=fun hm=>by
 rcases o_.1 hm with h'|h'
 ·exact h h'
 ·exact k h'
theorem Fj(l:List Int):bC Try.prog 73 (l.map li):=by
 intro w fp v k hS hF hk0 hk1;obtain⟨A,c,rfl,hl,hc⟩:=hS.ak;have hm:l.length≤9223372036854775807:=by unfold maxLen at hc;omega
 clear hl hc
 go_enter Try.func73,Try.ntmps73
 go_wp2_with fail
 go_loopw [1,5] (fun kv iv wr=>∃(i:Nat) (K:Int),i≤l.length∧iv= .int .i64 i∧kv= .int .i64 K∧K=k+D.cnts ((l.map li).take i)∧Sl wr (part (l.map li) k i) fp (.slice A l.length c)∧Touch fp w wr) (fun _ iv _=>l.length - (intOf iv).toNat)
 case atStart=>exact⟨0,k,by omega,rfl,rfl,by simp[D.fG],by rw[kM];exact hS,Touch.refl _ _⟩
 case round=>
  obtain⟨i,K,hi,rfl,rfl,hK,hSi,hT⟩:=hrel;by_cases hlt:i<l.length
  ·have hi':i<(l.map li).length:=by rw[a_];exact hlt
   have hcn:=D.fP (l.map li) hi';have hle:=D.dB (l.map li) (i+1);have hc1:((l.map li)[i]).cnt=1:=by rw[b_];rfl
   rw[hc1]at hcn;have hk2:0≤K:=by omega
   have hk3:K+1≤4611686018427387904:=by omega
   have hK':=d_ hK;have hcn':=d_ hcn;have hFr:=hF.touch (R.lt hS) hT;obtain⟨b,o,fi,ci,rfl,hbb,hbf,hri,hfi,hbn,hfn,hat,hback⟩:=hSi.focus hF.1 (ji Ah k i) (lT (l.map li) k hi')
   rw[b_]at hri;clear hK hcn hle;obtain⟨rfl,rfl⟩:=hri;simp only[q_]at hat hback;have z0:∀off,wr.frozen? ⟨b,off,none⟩=false:=fun off=>(hFr.2 b hbf).2 off
   have hI0:Inr b (o+i) (o+i+1) [] wr wr:=Inr.refl _ _ _ _ _;have hA0:=hat;clear hat;have q0:=hA0.head
   go_wp2_with fail
   have hIe:=(hI0.setCell (off:=o+i) (by omega) (by omega) (.int .i64 (K)))
   have hAe:=(hA0.set (j:=0) (by simp) (.int .i64 (K)))
   have hIf:=hIe
   go_roundw
   case rel=>
    refine⟨i+1,K+1,by omega,by go_num,rfl, ?_, ?_,hT.trans (hIf.nR hbf hfi)⟩
    ·rw[hcn'.out];have:=hK'.out;push_cast;omega
    ·rw[← jL _ k hi',b_];exact hback _ (.leaf (.int .i64 (k+D.cnts ((l.map li).take i)))) _ rfl ⟨rfl,rfl⟩ (by have e:=hK'.out;subst e;exact hAe) hIf
   case measure=>(simp[intOf]<;>omega)
  ·have hf:=d_ (show i=l.length by omega);have hK':=d_ hK;clear hK
   go_wp2_with fail
   go_ret
   have e1:=hf.out;have e2:=hK'.out;rw[g_ (by rw[a_];omega)]at e2;rw[gU _ _ (by rw[a_];omega)]at hSi;exact⟨iZ e2,hSi,hT⟩
theorem NR(l:List Int):bC Try.prog 73 (l.map li):=Fj l
theorem zf(l:List ByteArray):bC Try.prog 45 (l.map ls):=by
 intro w fp v k hS hF hk0 hk1;obtain⟨A,c,rfl,hl,hc⟩:=hS.ak;have hm:l.length≤9223372036854775807:=by unfold maxLen at hc;omega
 clear hl hc
 go_enter Try.func45,Try.ntmps45
 go_wp2_with fail
 go_loopw [1,5] (fun kv iv wr=>∃(i:Nat) (K:Int),i≤l.length∧iv= .int .i64 i∧kv= .int .i64 K∧K=k+D.cnts ((l.map ls).take i)∧Sl wr (part (l.map ls) k i) fp (.slice A l.length c)∧Touch fp w wr) (fun _ iv _=>l.length - (intOf iv).toNat)
 case atStart=>exact⟨0,k,by omega,rfl,rfl,by simp[D.fG],by rw[kM];exact hS,Touch.refl _ _⟩
 case round=>
  obtain⟨i,K,hi,rfl,rfl,hK,hSi,hT⟩:=hrel;by_cases hlt:i<l.length
  ·have hi':i<(l.map ls).length:=by rw[a_];exact hlt
   have hcn:=D.fP (l.map ls) hi';have hle:=D.dB (l.map ls) (i+1);have hc1:((l.map ls)[i]).cnt=1:=by rw[b_];rfl
   rw[hc1]at hcn;have hk2:0≤K:=by omega
   have hk3:K+1≤4611686018427387904:=by omega
   have hK':=d_ hK;have hcn':=d_ hcn;have hFr:=hF.touch (R.lt hS) hT;obtain⟨b,o,fi,ci,rfl,hbb,hbf,hri,hfi,hbn,hfn,hat,hback⟩:=hSi.focus hF.1 (ji wX k i) (lT (l.map ls) k hi')
   rw[b_]at hri;clear hK hcn hle;obtain⟨rfl,rfl⟩:=hri;simp only[q_]at hat hback;have z0:∀off,wr.frozen? ⟨b,off,none⟩=false:=fun off=>(hFr.2 b hbf).2 off
   have hI0:Inr b (o+i) (o+i+1) [] wr wr:=Inr.refl _ _ _ _ _;have hA0:=hat;clear hat
   go_wp2_with fail
   refine(gX _ _ (by omega)).mono ?_;rintro e w1 ⟨rfl,hb1⟩;have hbW:=hI0;have hI1:=(hI0).below hbb hb1;have hA1:=(hA0).below (c_ hbb hbW.size) hb1;have z1:∀off,w1.frozen? ⟨b,off,none⟩=false:=fun off=>(hI1.froz b off hbb).trans (hFr.2 b hbf |>.2 off)
   clear hbW hb1 z0 hA0 hI0;have q0:=hA1.head
   go_wp2_with fail
   have hIe:=(hI1.setCell (off:=o+i) (by omega) (by omega) (.string (iY (K))))
   have hAe:=(hA1.set (j:=0) (by simp) (.string (iY (K))))
   have hIf:=hIe
   go_roundw
   case rel=>
    refine⟨i+1,K+1,by omega,by go_num,rfl, ?_, ?_,hT.trans (hIf.nR hbf hfi)⟩
    ·rw[hcn'.out];have:=hK'.out;push_cast;omega
    ·rw[← jL _ k hi',b_];exact hback _ (.leaf (.string (iY (k+D.cnts ((l.map ls).take i))))) _ rfl ⟨rfl,rfl⟩ (by have e:=hK'.out;subst e;exact hAe) hIf
   case measure=>(simp[intOf]<;>omega)
  ·have hf:=d_ (show i=l.length by omega);have hK':=d_ hK;clear hK
   go_wp2_with fail
   go_ret
   have e1:=hf.out;have e2:=hK'.out;rw[g_ (by rw[a_];omega)]at e2;rw[gU _ _ (by rw[a_];omega)]at hSi;exact⟨iZ e2,hSi,hT⟩
theorem qm(l:List ByteArray):bC Try.prog 45 (l.map ls):=zf l
theorem GOrigin.jG(x:GOrigin):x.toD.cnt=2:=by
 simp only[GOrigin.aj,D.cnt,D.cnts,li,ls]
 try omega
theorem GOrigin.qy{w:World}{x:GOrigin}{k:Int}{a0 a1:Int}(e0:a0=k)(e1:a1=k+((1:Nat):Int)):R w (x.toD.mk k) ([]) [.int .i64 a0,.int .i64 a1]:=by
 subst e0 e1;simp only[GOrigin.aj,D.mk,D.mks,D.cnt,D.cnts,nD,li,ls,dK,dX,bP,iq,dW,h_,j_];exact⟨_,rfl,⟨_,rfl,⟨by simp,rfl⟩⟩⟩
theorem GOrigin.nG{w:World}{x:GOrigin}{k:Int}{fp:List Nat}{cs:List Value}(h:R w (x.toD.mk k) fp cs):∃(a0 a1:Int),a0=k∧a1=k+((1:Nat):Int)∧fp= []∧cs= [.int .i64 a0,.int .i64 a1]:=by
 simp only[GOrigin.aj,D.mk,D.mks,D.cnt,D.cnts,nD,li,ls,dK,dX,bP,iq,dW,h_,j_]at h;obtain⟨_,rfl,⟨_,rfl,⟨rfl,rfl⟩⟩⟩:=h;exact⟨_,_,rfl,rfl,rfl,rfl⟩
theorem zn(l:List GOrigin):bC Try.prog 74 (l.map GOrigin.toD):=by
 intro w fp v k hS hF hk0 hk1;obtain⟨A,c,rfl,hl,hc⟩:=hS.ak;have hm:l.length≤9223372036854775807:=by unfold maxLen at hc;omega
 clear hl hc
 go_enter Try.func74,Try.ntmps74
 go_wp2_with fail
 go_loopw [1,5] (fun kv iv wr=>∃(i:Nat) (K:Int),i≤l.length∧iv= .int .i64 i∧kv= .int .i64 K∧K=k+D.cnts ((l.map GOrigin.toD).take i)∧Sl wr (part (l.map GOrigin.toD) k i) fp (.slice A l.length c)∧Touch fp w wr) (fun _ iv _=>l.length - (intOf iv).toNat)
 case atStart=>exact⟨0,k,by omega,rfl,rfl,by simp[D.fG],by rw[kM];exact hS,Touch.refl _ _⟩
 case round=>
  obtain⟨i,K,hi,rfl,rfl,hK,hSi,hT⟩:=hrel;by_cases hlt:i<l.length
  ·have hi':i<(l.map GOrigin.toD).length:=by rw[a_];exact hlt
   have hcn:=D.fP (l.map GOrigin.toD) hi';have hle:=D.dB (l.map GOrigin.toD) (i+1);rw[b_,GOrigin.jG]at hcn;have hk2:0≤K:=by omega
   have hk3:K+2≤4611686018427387904:=by omega
   have hK':=d_ hK;have hcn':=d_ hcn;have hFr:=hF.touch (R.lt hS) hT;obtain⟨b,o,fi,ci,rfl,hbb,hbf,hri,hfi,hbn,hfn,hat,hback⟩:=hSi.focus hF.1 (ji GOrigin.szs k i) (lT (l.map GOrigin.toD) k hi')
   rw[b_]at hri;clear hK hcn hle;obtain⟨rfl,rfl⟩:=GOrigin.opened.1 hri;have z0:∀off,wr.frozen? ⟨b,off,none⟩=false:=fun off=>(hFr.2 b hbf).2 off
   clear hri;have hI0:Inr b (o+i*2) (o+i*2+2) [] wr wr:=Inr.refl _ _ _ _ _;have hA0:=hat;clear hat;have q0:=hA0.head;have q1:=hA0.nth 1 rfl
   go_wp2_with fail
   have hIe:=((hI0.setCell (off:=o+i*2) (by omega) (by omega) (.int .i64 (K))).setCell (off:=o+i*2+1) (by omega) (by omega) (.int .i64 (K+1)))
   have hAe:=((hA0.set (j:=0) (by simp) (.int .i64 (K))).set (j:=1) (by simp) (.int .i64 (K+1)))
   have hIf:=hIe
   go_roundw
   case rel=>
    refine⟨i+1,K+1+1,by omega,by go_num,rfl, ?_, ?_,hT.trans (hIf.nR hbf hfi)⟩
    ·rw[hcn'.out];have:=hK'.out;push_cast;omega
    ·rw[← jL _ k hi',b_];exact hback _ _ _ (by rw[D.yj];exact GOrigin.sz_eq _) (GOrigin.qy (by have:=hK'.out;push_cast;omega) (by have:=hK'.out;push_cast;omega)) hAe hIf
   case measure=>(simp[intOf]<;>omega)
  ·have hf:=d_ (show i=l.length by omega);have hK':=d_ hK;clear hK
   go_wp2_with fail
   go_ret
   have e1:=hf.out;have e2:=hK'.out;rw[g_ (by rw[a_];omega)]at e2;rw[gU _ _ (by rw[a_];omega)]at hSi;exact⟨iZ e2,hSi,hT⟩
theorem Fe(l:List GOrigin):bC Try.prog 74 (l.map GOrigin.toD):=zn l
theorem GRow.jG(x:GRow):x.toD.cnt=0+D.cnts (x.cells.map li)+D.cnts (x.src.map GOrigin.toD):=by
 simp only[GRow.aj,D.cnt,D.cnts,li,ls]
 try omega
theorem GRow.qy{w:World}{x:GRow}{k:Int}{a0 a1:Int}{f0 f1:List Nat}{v0 v1:Value}(e0:a0=k)(e1:a1=k+((D.cnts (x.cells.map li):Nat):Int))(s0:Sl w (D.mks (x.cells.map li) a0) f0 v0)(s1:Sl w (D.mks (x.src.map GOrigin.toD) a1) f1 v1):R w (x.toD.mk k) (f0++(f1)) [v0,v1]:=by
 subst e0 e1;simp only[GRow.aj,D.mk,D.mks,D.cnt,D.cnts,nD,li,ls,dK,dX,bP,iq,dW,h_,j_];exact⟨_,_,_,_,rfl,rfl,s0,⟨_,_,_,_,(n_ _).symm,rfl,s1,⟨rfl,rfl⟩⟩⟩
theorem GRow.nG{w:World}{x:GRow}{k:Int}{fp:List Nat}{cs:List Value}(h:R w (x.toD.mk k) fp cs):∃(a0 a1:Int) (v0 v1:Value) (f0 f1:List Nat),a0=k∧a1=k+((D.cnts (x.cells.map li):Nat):Int)∧fp=f0++(f1)∧cs= [v0,v1]∧Sl w (D.mks (x.cells.map li) a0) f0 v0∧Sl w (D.mks (x.src.map GOrigin.toD) a1) f1 v1:=by
 simp only[GRow.aj,D.mk,D.mks,D.cnt,D.cnts,nD,li,ls,dK,dX,bP,iq,dW,h_,j_]at h;obtain⟨_,_,_,_,rfl,rfl,s0,⟨_,_,_,_,rfl,rfl,s1,⟨rfl,rfl⟩⟩⟩:=h;exact⟨_,_,_,_,_,_,rfl,rfl,by simp,rfl,s0,s1⟩
theorem GRow.rY{w:World}{x:GRow}{k:Int}{fp:List Nat}{cs:List Value}(h:R w (x.toD.amk k) fp cs):∃(a0 a1:Int) (v0 v1:Value) (f0 f1:List Nat),a0=k∧a1=k+((D.cnts (x.cells.map li):Nat):Int)∧fp=f0++(f1)∧cs= [v0,v1]∧Sl w (D.mks (x.cells.map li) a0) f0 v0∧Sl w (D.mks (x.src.map GOrigin.toD) a1) f1 v1:=by
 simp only[GRow.aj,D.amk,D.Ip,D.l9,D.l7,li,ls,dK,dX,bP,iq,dW,h_,j_]at h;obtain⟨_,_,_,_,rfl,rfl,s0,⟨_,_,_,_,rfl,rfl,s1,⟨rfl,rfl⟩⟩⟩:=h;exact⟨_,_,_,_,_,_,rfl,rfl,by simp,rfl,s0,s1⟩
theorem GRow.qg(x:GRow):x.toD.l9=D.cnts (x.cells.map li)+D.cnts (x.src.map GOrigin.toD):=by
 simp only[GRow.aj,D.l9,D.l7,li,ls]
 try omega
theorem E5(l:List GRow)(hM0:∀x∈l,bC Try.prog 73 (x.cells.map li))(hM1:∀x∈l,bC Try.prog 74 (x.src.map GOrigin.toD)):bC Try.prog 46 (l.map GRow.toD):=by
 intro w fp v k hS hF hk0 hk1;obtain⟨A,c,rfl,hl,hc⟩:=hS.ak;have hm:l.length≤9223372036854775807:=by unfold maxLen at hc;omega
 clear hl hc
 go_enter Try.func46,Try.ntmps46
 go_wp2_with fail
 go_loopw [1,5] (fun kv iv wr=>∃(i:Nat) (K:Int),i≤l.length∧iv= .int .i64 i∧kv= .int .i64 K∧K=k+D.cnts ((l.map GRow.toD).take i)∧Sl wr (part (l.map GRow.toD) k i) fp (.slice A l.length c)∧Touch fp w wr) (fun _ iv _=>l.length - (intOf iv).toNat)
 case atStart=>exact⟨0,k,by omega,rfl,rfl,by simp[D.fG],by rw[kM];exact hS,Touch.refl _ _⟩
 case round=>
  obtain⟨i,K,hi,rfl,rfl,hK,hSi,hT⟩:=hrel;by_cases hlt:i<l.length
  ·have hi':i<(l.map GRow.toD).length:=by rw[a_];exact hlt
   have hcn:=D.fP (l.map GRow.toD) hi';have hle:=D.dB (l.map GRow.toD) (i+1);rw[b_,GRow.jG]at hcn;have hk2:0≤K:=by omega
   have hk3:K+0+(D.cnts (l[i].cells.map li):Int)+(D.cnts (l[i].src.map GOrigin.toD):Int)≤4611686018427387904:=by omega
   have hK':=d_ hK;have hcn':=d_ hcn;have hFr:=hF.touch (R.lt hS) hT;obtain⟨b,o,fi,ci,rfl,hbb,hbf,hri,hfi,hbn,hfn,hat,hback⟩:=hSi.focus hF.1 (ji GRow.szs k i) (lT (l.map GRow.toD) k hi')
   rw[b_]at hri;clear hK hcn hle;obtain⟨v0,v1,g0,g1,rfl,rfl,hV0,hV1⟩:=GRow.opened.1 hri;obtain⟨A0,c0,rfl,hqa,hqb⟩:=hV0.ak;clear hqa hqb;obtain⟨A1,c1,rfl,hqa,hqb⟩:=hV1.ak;clear hqa hqb;have nN1:=(k_.1 hfn).2.1;have nd0:=(k_.1 hfn).1;have D0_1:∀x∈g1,x∉g0:=fun x hx hy=>(k_.1 hfn).2.2 x hy x (by simp[hx]) rfl
   have D1_0:∀x∈g0,x∉g1:=fun x hx hy=>D0_1 x hy hx
   have nd1:=nN1;have bn0:b∉g0:=fun hx=>hbn (by first|exact hx|simp[hx])
   have Fr0:aX wr 0 g0:=hFr.sub nd0 (fun x hx=>hfi x (by first|exact hx|simp[hx]));have bn1:b∉g1:=fun hx=>hbn (by first|exact hx|simp[hx])
   have Fr1:aX wr 0 g1:=hFr.sub nd1 (fun x hx=>hfi x (by first|exact hx|simp[hx]));have z0:∀off,wr.frozen? ⟨b,off,none⟩=false:=fun off=>(hFr.2 b hbf).2 off
   clear hri;have hI0:Inr b (o+i*2) (o+i*2+2) [] wr wr:=Inr.refl _ _ _ _ _;have hA0:=hat;clear hat;have q0:=hA0.head
   go_wp2_with fail
   have hbW:=hI0;refine(hM0 _ (i_ hlt) _ g0 _ _ (hV0.inr hbW bn0 (fun x hx=>dL)) (Fr0.inr (R.lt hV0) hbW) (by omega) (by omega)).mono ?_;rintro e w1 ⟨rfl,hS0,hb1⟩;have hI1:=((hI0).mono (F':= []++g0) (fun x hx=>f_ _ hx)).touch hbb hb1 (fun x hx=>e_ _ hx) bn0;have hA1:=(hA0).touch (c_ hbb hbW.size) hb1 bn0;have hbb1:b<w1.heap.size:=c_ hbb hI1.size;have hJ0_1:Inr b (o+i*2) (o+i*2+2) [] w1 w1:=Inr.refl _ _ _ _ _;have z1:∀off,w1.frozen? ⟨b,off,none⟩=false:=fun off=>(hI1.froz b off hbb).trans (hFr.2 b hbf |>.2 off)
   clear hbW hb1 z0 hA0 hI0 q0;have q1:=hA1.nth 1 rfl
   go_wp2_with fail
   have hbW:=hI1;refine(hM1 _ (i_ hlt) _ g1 _ _ (hV1.inr hbW bn1 (fun x hx=>gK (dL) (D0_1 x hx))) (Fr1.inr (R.lt hV1) hbW) (by omega) (by omega)).mono ?_;rintro e w2 ⟨rfl,hS1,hb2⟩;have hI2:=((hI1).mono (F':=([]++g0)++g1) (fun x hx=>f_ _ hx)).touch hbb hb2 (fun x hx=>e_ _ hx) bn1;have hJ0_2:=((hJ0_1).mono (F':= []++g1) (fun x hx=>f_ _ hx)).touch hbb1 hb2 (fun x hx=>e_ _ hx) bn1;have hA2:=(hA1).touch (c_ hbb hbW.size) hb2 bn1;have hbb2:b<w2.heap.size:=c_ hbb hI2.size;have hJ1_2:Inr b (o+i*2) (o+i*2+2) [] w2 w2:=Inr.refl _ _ _ _ _;have z2:∀off,w2.frozen? ⟨b,off,none⟩=false:=fun off=>(hI2.froz b off hbb).trans (hFr.2 b hbf |>.2 off)
   clear hbW hb2 z1 hA1 hI1 hJ0_1 q1
   go_wp2_with fail
   have hIe:=hI2;have hAe:=hA2;have hSe0:=hS0.inr hJ0_2 bn0 (fun x hx=>gK (dL) (D1_0 x hx));have hSe1:=hS1.inr hJ1_2 bn1 (fun x hx=>dL);have hIf:=hIe.mono (F':=g0++(g1)) (fun x hx=>by
    simp only[o_,p_,false_or]at hx;rcases hx with h|h<;>simp[h])
   go_roundw
   case rel=>
    refine⟨i+1,K+(D.cnts (l[i].cells.map li):Int)+(D.cnts (l[i].src.map GOrigin.toD):Int),by omega,by go_num,rfl, ?_, ?_,hT.trans (hIf.nR hbf hfi)⟩
    ·rw[hcn'.out];have:=hK'.out;push_cast;omega
    ·rw[← jL _ k hi',b_];exact hback _ _ _ (by rw[D.yj];exact GRow.sz_eq _) (GRow.qy (by have:=hK'.out;push_cast;omega) (by have:=hK'.out;push_cast;omega) hSe0 hSe1) hAe hIf
   case measure=>(simp[intOf]<;>omega)
  ·have hf:=d_ (show i=l.length by omega);have hK':=d_ hK;clear hK
   go_wp2_with fail
   go_ret
   have e1:=hf.out;have e2:=hK'.out;rw[g_ (by rw[a_];omega)]at e2;rw[gU _ _ (by rw[a_];omega)]at hSi;exact⟨iZ e2,hSi,hT⟩
theorem xU(l:List GRow):bC Try.prog 46 (l.map GRow.toD):=E5 l (fun y _=>NR _) (fun y _=>Fe _)
theorem GVal.jG(x:GVal):x.toD.cnt=4+D.cnts (x.list.map GVal.toD)+D.cnts (x.cols.map ls)+D.cnts (x.rows.map GRow.toD):=by
 simp only[GVal.aj,D.cnt,D.cnts,li,ls]
 try omega
theorem GVal.qy{w:World}{x:GVal}{k:Int}{a0 a1 a2 a3 a4 a5 a6:Int}{f0 f1 f2:List Nat}{v0 v1 v2:Value}(e0:a0=k)(e1:a1=k+((1:Nat):Int))(e2:a2=k+((1:Nat):Int)+((1:Nat):Int))(e3:a3=k+((1:Nat):Int)+((1:Nat):Int)+((1:Nat):Int))(e4:a4=k+((1:Nat):Int)+((1:Nat):Int)+((1:Nat):Int)+((1:Nat):Int))(e5:a5=k+((1:Nat):Int)+((1:Nat):Int)+((1:Nat):Int)+((1:Nat):Int)+((D.cnts (x.list.map GVal.toD):Nat):Int))(e6:a6=k+((1:Nat):Int)+((1:Nat):Int)+((1:Nat):Int)+((1:Nat):Int)+((D.cnts (x.list.map GVal.toD):Nat):Int)+((D.cnts (x.cols.map ls):Nat):Int))(s0:Sl w (D.mks (x.list.map GVal.toD) a4) f0 v0)(s1:Sl w (D.mks (x.cols.map ls) a5) f1 v1)(s2:Sl w (D.mks (x.rows.map GRow.toD) a6) f2 v2):R w (x.toD.mk k) (f0++(f1++(f2))) [.int .i64 a0,.int .i64 a1,.int .i64 a2,.string (iY a3),v0,v1,v2]:=by
 subst e0 e1 e2 e3 e4 e5 e6;simp only[GVal.aj,D.mk,D.mks,D.cnt,D.cnts,nD,li,ls,dK,dX,bP,iq,dW,h_,j_];exact⟨_,rfl,⟨_,rfl,⟨_,rfl,⟨_,rfl,⟨_,_,_,_,rfl,rfl,s0,⟨_,_,_,_,rfl,rfl,s1,⟨_,_,_,_,(n_ _).symm,rfl,s2,⟨rfl,rfl⟩⟩⟩⟩⟩⟩⟩⟩
theorem GVal.nG{w:World}{x:GVal}{k:Int}{fp:List Nat}{cs:List Value}(h:R w (x.toD.mk k) fp cs):∃(a0 a1 a2 a3 a4 a5 a6:Int) (v0 v1 v2:Value) (f0 f1 f2:List Nat),a0=k∧a1=k+((1:Nat):Int)∧a2=k+((1:Nat):Int)+((1:Nat):Int)∧a3=k+((1:Nat):Int)+((1:Nat):Int)+((1:Nat):Int)∧a4=k+((1:Nat):Int)+((1:Nat):Int)+((1:Nat):Int)+((1:Nat):Int)∧a5=k+((1:Nat):Int)+((1:Nat):Int)+((1:Nat):Int)+((1:Nat):Int)+((D.cnts (x.list.map GVal.toD):Nat):Int)∧a6=k+((1:Nat):Int)+((1:Nat):Int)+((1:Nat):Int)+((1:Nat):Int)+((D.cnts (x.list.map GVal.toD):Nat):Int)+((D.cnts (x.cols.map ls):Nat):Int)∧fp=f0++(f1++(f2))∧cs= [.int .i64 a0,.int .i64 a1,.int .i64 a2,.string (iY a3),v0,v1,v2]∧Sl w (D.mks (x.list.map GVal.toD) a4) f0 v0∧Sl w (D.mks (x.cols.map ls) a5) f1 v1∧Sl w (D.mks (x.rows.map GRow.toD) a6) f2 v2:=by
 simp only[GVal.aj,D.mk,D.mks,D.cnt,D.cnts,nD,li,ls,dK,dX,bP,iq,dW,h_,j_]at h;obtain⟨_,rfl,⟨_,rfl,⟨_,rfl,⟨_,rfl,⟨_,_,_,_,rfl,rfl,s0,⟨_,_,_,_,rfl,rfl,s1,⟨_,_,_,_,rfl,rfl,s2,⟨rfl,rfl⟩⟩⟩⟩⟩⟩⟩⟩:=h;exact⟨_,_,_,_,_,_,_,_,_,_,_,_,_,rfl,rfl,rfl,rfl,rfl,rfl,rfl,by simp,rfl,s0,s1,s2⟩
theorem GVal.rY{w:World}{x:GVal}{k:Int}{fp:List Nat}{cs:List Value}(h:R w (x.toD.amk k) fp cs):∃(a4 a5 a6:Int) (v0 v1 v2:Value) (f0 f1 f2:List Nat),a4=k+((0:Nat):Int)+((0:Nat):Int)+((0:Nat):Int)+((0:Nat):Int)∧a5=k+((0:Nat):Int)+((0:Nat):Int)+((0:Nat):Int)+((0:Nat):Int)+((D.cnts (x.list.map GVal.toD):Nat):Int)∧a6=k+((0:Nat):Int)+((0:Nat):Int)+((0:Nat):Int)+((0:Nat):Int)+((D.cnts (x.list.map GVal.toD):Nat):Int)+((D.cnts (x.cols.map ls):Nat):Int)∧fp=f0++(f1++(f2))∧cs= [.int .i64 x.kind,.int .i64 x.n,.int .i64 x.step,.string x.text,v0,v1,v2]∧Sl w (D.mks (x.list.map GVal.toD) a4) f0 v0∧Sl w (D.mks (x.cols.map ls) a5) f1 v1∧Sl w (D.mks (x.rows.map GRow.toD) a6) f2 v2:=by
 simp only[GVal.aj,D.amk,D.Ip,D.l9,D.l7,li,ls,dK,dX,bP,iq,dW,h_,j_]at h;obtain⟨_,rfl,⟨_,rfl,⟨_,rfl,⟨_,rfl,⟨_,_,_,_,rfl,rfl,s0,⟨_,_,_,_,rfl,rfl,s1,⟨_,_,_,_,rfl,rfl,s2,⟨rfl,rfl⟩⟩⟩⟩⟩⟩⟩⟩:=h;exact⟨_,_,_,_,_,_,_,_,_,rfl,rfl,rfl,by simp,rfl,s0,s1,s2⟩
theorem GVal.qg(x:GVal):x.toD.l9=D.cnts (x.list.map GVal.toD)+D.cnts (x.cols.map ls)+D.cnts (x.rows.map GRow.toD):=by
 simp only[GVal.aj,D.l9,D.l7,li,ls]
 try omega
theorem qZ(l:List GVal)(hM0:∀x∈l,bC Try.prog 26 (x.list.map GVal.toD))(hM1:∀x∈l,bC Try.prog 45 (x.cols.map ls))(hM2:∀x∈l,bC Try.prog 46 (x.rows.map GRow.toD)):bC Try.prog 26 (l.map GVal.toD):=by
 intro w fp v k hS hF hk0 hk1;obtain⟨A,c,rfl,hl,hc⟩:=hS.ak;have hm:l.length≤9223372036854775807:=by unfold maxLen at hc;omega
 clear hl hc
 go_enter Try.func26,Try.ntmps26
 go_wp2_with fail
 go_loopw [1,5] (fun kv iv wr=>∃(i:Nat) (K:Int),i≤l.length∧iv= .int .i64 i∧kv= .int .i64 K∧K=k+D.cnts ((l.map GVal.toD).take i)∧Sl wr (part (l.map GVal.toD) k i) fp (.slice A l.length c)∧Touch fp w wr) (fun _ iv _=>l.length - (intOf iv).toNat)
 case atStart=>exact⟨0,k,by omega,rfl,rfl,by simp[D.fG],by rw[kM];exact hS,Touch.refl _ _⟩
 case round=>
  obtain⟨i,K,hi,rfl,rfl,hK,hSi,hT⟩:=hrel;by_cases hlt:i<l.length
  ·have hi':i<(l.map GVal.toD).length:=by rw[a_];exact hlt
   have hcn:=D.fP (l.map GVal.toD) hi';have hle:=D.dB (l.map GVal.toD) (i+1);rw[b_,GVal.jG]at hcn;have hk2:0≤K:=by omega
   have hk3:K+4+(D.cnts (l[i].list.map GVal.toD):Int)+(D.cnts (l[i].cols.map ls):Int)+(D.cnts (l[i].rows.map GRow.toD):Int)≤4611686018427387904:=by omega
   have hK':=d_ hK;have hcn':=d_ hcn;have hFr:=hF.touch (R.lt hS) hT;obtain⟨b,o,fi,ci,rfl,hbb,hbf,hri,hfi,hbn,hfn,hat,hback⟩:=hSi.focus hF.1 (ji GVal.szs k i) (lT (l.map GVal.toD) k hi')
   rw[b_]at hri;clear hK hcn hle;obtain⟨v0,v1,v2,g0,g1,g2,rfl,rfl,hV0,hV1,hV2⟩:=GVal.opened.1 hri;obtain⟨A0,c0,rfl,hqa,hqb⟩:=hV0.ak;clear hqa hqb;obtain⟨A1,c1,rfl,hqa,hqb⟩:=hV1.ak;clear hqa hqb;obtain⟨A2,c2,rfl,hqa,hqb⟩:=hV2.ak;clear hqa hqb;have nN1:=(k_.1 hfn).2.1;have nd0:=(k_.1 hfn).1;have D0_1:∀x∈g1,x∉g0:=fun x hx hy=>(k_.1 hfn).2.2 x hy x (by simp[hx]) rfl
   have D1_0:∀x∈g0,x∉g1:=fun x hx hy=>D0_1 x hy hx
   have D0_2:∀x∈g2,x∉g0:=fun x hx hy=>(k_.1 hfn).2.2 x hy x (by simp[hx]) rfl
   have D2_0:∀x∈g0,x∉g2:=fun x hx hy=>D0_2 x hy hx
   have nN2:=(k_.1 nN1).2.1;have nd1:=(k_.1 nN1).1;have D1_2:∀x∈g2,x∉g1:=fun x hx hy=>(k_.1 nN1).2.2 x hy x (by simp[hx]) rfl
   have D2_1:∀x∈g1,x∉g2:=fun x hx hy=>D1_2 x hy hx
   have nd2:=nN2;have bn0:b∉g0:=fun hx=>hbn (by first|exact hx|simp[hx])
   have Fr0:aX wr 0 g0:=hFr.sub nd0 (fun x hx=>hfi x (by first|exact hx|simp[hx]));have bn1:b∉g1:=fun hx=>hbn (by first|exact hx|simp[hx])
   have Fr1:aX wr 0 g1:=hFr.sub nd1 (fun x hx=>hfi x (by first|exact hx|simp[hx]));have bn2:b∉g2:=fun hx=>hbn (by first|exact hx|simp[hx])
   have Fr2:aX wr 0 g2:=hFr.sub nd2 (fun x hx=>hfi x (by first|exact hx|simp[hx]));have z0:∀off,wr.frozen? ⟨b,off,none⟩=false:=fun off=>(hFr.2 b hbf).2 off
   clear hri;have hI0:Inr b (o+i*7) (o+i*7+7) [] wr wr:=Inr.refl _ _ _ _ _;have hA0:=hat;clear hat;have q0:=hA0.head;have q1:=hA0.nth 1 rfl;have q2:=hA0.nth 2 rfl
   go_wp2_with fail
   refine(gX _ _ (by omega)).mono ?_;rintro e w1 ⟨rfl,hb1⟩;have hbW:=(((hI0.setCell (off:=o+i*7) (by omega) (by omega) (.int .i64 (K))).setCell (off:=o+i*7+1) (by omega) (by omega) (.int .i64 (K+1))).setCell (off:=o+i*7+2) (by omega) (by omega) (.int .i64 (K+1+1)))
   have hI1:=((((hI0.setCell (off:=o+i*7) (by omega) (by omega) (.int .i64 (K))).setCell (off:=o+i*7+1) (by omega) (by omega) (.int .i64 (K+1))).setCell (off:=o+i*7+2) (by omega) (by omega) (.int .i64 (K+1+1)))).below hbb hb1;have hA1:=((((hA0.set (j:=0) (by simp) (.int .i64 (K))).set (j:=1) (by simp) (.int .i64 (K+1))).set (j:=2) (by simp) (.int .i64 (K+1+1)))).below (c_ hbb hbW.size) hb1;have z1:∀off,w1.frozen? ⟨b,off,none⟩=false:=fun off=>(hI1.froz b off hbb).trans (hFr.2 b hbf |>.2 off)
   clear hbW hb1 z0 hA0 hI0 q0 q1 q2;have q3:=hA1.nth 3 rfl;have q4:=hA1.nth 4 rfl
   go_wp2_with fail
   have hbW:=(hI1.setCell (off:=o+i*7+3) (by omega) (by omega) (.string (iY (K+1+1+1))))
   refine(hM0 _ (i_ hlt) _ g0 _ _ (hV0.inr hbW bn0 (fun x hx=>dL)) (Fr0.inr (R.lt hV0) hbW) (by omega) (by omega)).mono ?_;rintro e w2 ⟨rfl,hS0,hb2⟩;have hI2:=(((hI1.setCell (off:=o+i*7+3) (by omega) (by omega) (.string (iY (K+1+1+1))))).mono (F':= []++g0) (fun x hx=>f_ _ hx)).touch hbb hb2 (fun x hx=>e_ _ hx) bn0;have hA2:=((hA1.set (j:=3) (by simp) (.string (iY (K+1+1+1))))).touch (c_ hbb hbW.size) hb2 bn0;have hbb2:b<w2.heap.size:=c_ hbb hI2.size;have hJ0_2:Inr b (o+i*7) (o+i*7+7) [] w2 w2:=Inr.refl _ _ _ _ _;have z2:∀off,w2.frozen? ⟨b,off,none⟩=false:=fun off=>(hI2.froz b off hbb).trans (hFr.2 b hbf |>.2 off)
   clear hbW hb2 z1 hA1 hI1 q3 q4;have q5:=hA2.nth 5 rfl
   go_wp2_with fail
   have hbW:=hI2;refine(hM1 _ (i_ hlt) _ g1 _ _ (hV1.inr hbW bn1 (fun x hx=>gK (dL) (D0_1 x hx))) (Fr1.inr (R.lt hV1) hbW) (by omega) (by omega)).mono ?_;rintro e w3 ⟨rfl,hS1,hb3⟩;have hI3:=((hI2).mono (F':=([]++g0)++g1) (fun x hx=>f_ _ hx)).touch hbb hb3 (fun x hx=>e_ _ hx) bn1;have hJ0_3:=((hJ0_2).mono (F':= []++g1) (fun x hx=>f_ _ hx)).touch hbb2 hb3 (fun x hx=>e_ _ hx) bn1;have hA3:=(hA2).touch (c_ hbb hbW.size) hb3 bn1;have hbb3:b<w3.heap.size:=c_ hbb hI3.size;have hJ1_3:Inr b (o+i*7) (o+i*7+7) [] w3 w3:=Inr.refl _ _ _ _ _;have z3:∀off,w3.frozen? ⟨b,off,none⟩=false:=fun off=>(hI3.froz b off hbb).trans (hFr.2 b hbf |>.2 off)
   clear hbW hb3 z2 hA2 hI2 hJ0_2 q5;have q6:=hA3.nth 6 rfl
   go_wp2_with fail
   have hbW:=hI3;refine(hM2 _ (i_ hlt) _ g2 _ _ (hV2.inr hbW bn2 (fun x hx=>gK (gK (dL) (D0_2 x hx)) (D1_2 x hx))) (Fr2.inr (R.lt hV2) hbW) (by omega) (by omega)).mono ?_;rintro e w4 ⟨rfl,hS2,hb4⟩;have hI4:=((hI3).mono (F':=(([]++g0)++g1)++g2) (fun x hx=>f_ _ hx)).touch hbb hb4 (fun x hx=>e_ _ hx) bn2;have hJ0_4:=((hJ0_3).mono (F':=([]++g1)++g2) (fun x hx=>f_ _ hx)).touch hbb2 hb4 (fun x hx=>e_ _ hx) bn2;have hJ1_4:=((hJ1_3).mono (F':= []++g2) (fun x hx=>f_ _ hx)).touch hbb3 hb4 (fun x hx=>e_ _ hx) bn2;have hA4:=(hA3).touch (c_ hbb hbW.size) hb4 bn2;have hbb4:b<w4.heap.size:=c_ hbb hI4.size;have hJ2_4:Inr b (o+i*7) (o+i*7+7) [] w4 w4:=Inr.refl _ _ _ _ _;have z4:∀off,w4.frozen? ⟨b,off,none⟩=false:=fun off=>(hI4.froz b off hbb).trans (hFr.2 b hbf |>.2 off)
   clear hbW hb4 z3 hA3 hI3 hJ0_3 hJ1_3 q6
   go_wp2_with fail
   have hIe:=hI4;have hAe:=hA4;have hSe0:=hS0.inr hJ0_4 bn0 (fun x hx=>gK (gK (dL) (D1_0 x hx)) (D2_0 x hx));have hSe1:=hS1.inr hJ1_4 bn1 (fun x hx=>gK (dL) (D2_1 x hx));have hSe2:=hS2.inr hJ2_4 bn2 (fun x hx=>dL);have hIf:=hIe.mono (F':=g0++(g1++(g2))) (fun x hx=>by
    simp only[o_,p_,false_or]at hx;rcases hx with(h|h)|h<;>simp[h])
   go_roundw
   case rel=>
    refine⟨i+1,K+1+1+1+1+(D.cnts (l[i].list.map GVal.toD):Int)+(D.cnts (l[i].cols.map ls):Int)+(D.cnts (l[i].rows.map GRow.toD):Int),by omega,by go_num,rfl, ?_, ?_,hT.trans (hIf.nR hbf hfi)⟩
    ·rw[hcn'.out];have:=hK'.out;push_cast;omega
    ·rw[← jL _ k hi',b_];exact hback _ _ _ (by rw[D.yj];exact GVal.sz_eq _) (GVal.qy (by have:=hK'.out;push_cast;omega) (by have:=hK'.out;push_cast;omega) (by have:=hK'.out;push_cast;omega) (by have:=hK'.out;push_cast;omega) (by have:=hK'.out;push_cast;omega) (by have:=hK'.out;push_cast;omega) (by have:=hK'.out;push_cast;omega) hSe0 hSe1 hSe2) hAe hIf
   case measure=>(simp[intOf]<;>omega)
  ·have hf:=d_ (show i=l.length by omega);have hK':=d_ hK;clear hK
   go_wp2_with fail
   go_ret
   have e1:=hf.out;have e2:=hK'.out;rw[g_ (by rw[a_];omega)]at e2;rw[gU _ _ (by rw[a_];omega)]at hSi;exact⟨iZ e2,hSi,hT⟩
theorem GVal.uN :∀(n:Nat) (x:GVal),SizeOf.sizeOf x≤n→bC Try.prog 26 (x.list.map GVal.toD)
 |0,x,h=>by cases x;simp at h
 |n+1,x,h=>qZ _ (fun y hy=>GVal.uN n y (by have:=GVal.lt_of_mem hy;omega)) (fun y _=>qm _) (fun y _=>xU _)
theorem Iw(l:List GVal):bC Try.prog 26 (l.map GVal.toD):=qZ l (fun y _=>GVal.uN _ y (m_ _)) (fun y _=>qm _) (fun y _=>xU _)
theorem GExpr.jG(x:GExpr):x.toD.cnt=3+D.cnts (x.args.map GExpr.toD):=by
 simp only[GExpr.aj,D.cnt,D.cnts,li,ls]
 try omega
theorem GExpr.qy{w:World}{x:GExpr}{k:Int}{a0 a1 a2 a3:Int}{f0:List Nat}{v0:Value}(e0:a0=k)(e1:a1=k+((1:Nat):Int))(e2:a2=k+((1:Nat):Int)+((1:Nat):Int))(e3:a3=k+((1:Nat):Int)+((1:Nat):Int)+((1:Nat):Int))(s0:Sl w (D.mks (x.args.map GExpr.toD) a3) f0 v0):R w (x.toD.mk k) (f0) [.int .i64 a0,.int .i64 a1,.string (iY a2),v0]:=by
 subst e0 e1 e2 e3;simp only[GExpr.aj,D.mk,D.mks,D.cnt,D.cnts,nD,li,ls,dK,dX,bP,iq,dW,h_,j_];exact⟨_,rfl,⟨_,rfl,⟨_,rfl,⟨_,_,_,_,(n_ _).symm,rfl,s0,⟨rfl,rfl⟩⟩⟩⟩⟩
theorem GExpr.nG{w:World}{x:GExpr}{k:Int}{fp:List Nat}{cs:List Value}(h:R w (x.toD.mk k) fp cs):∃(a0 a1 a2 a3:Int) (v0:Value) (f0:List Nat),a0=k∧a1=k+((1:Nat):Int)∧a2=k+((1:Nat):Int)+((1:Nat):Int)∧a3=k+((1:Nat):Int)+((1:Nat):Int)+((1:Nat):Int)∧fp=f0∧cs= [.int .i64 a0,.int .i64 a1,.string (iY a2),v0]∧Sl w (D.mks (x.args.map GExpr.toD) a3) f0 v0:=by
 simp only[GExpr.aj,D.mk,D.mks,D.cnt,D.cnts,nD,li,ls,dK,dX,bP,iq,dW,h_,j_]at h;obtain⟨_,rfl,⟨_,rfl,⟨_,rfl,⟨_,_,_,_,rfl,rfl,s0,⟨rfl,rfl⟩⟩⟩⟩⟩:=h;exact⟨_,_,_,_,_,_,rfl,rfl,rfl,rfl,by simp,rfl,s0⟩
theorem GExpr.rY{w:World}{x:GExpr}{k:Int}{fp:List Nat}{cs:List Value}(h:R w (x.toD.amk k) fp cs):∃(a3:Int) (v0:Value) (f0:List Nat),a3=k+((0:Nat):Int)+((0:Nat):Int)+((0:Nat):Int)∧fp=f0∧cs= [.int .i64 x.kind,.int .i64 x.n,.string x.text,v0]∧Sl w (D.mks (x.args.map GExpr.toD) a3) f0 v0:=by
 simp only[GExpr.aj,D.amk,D.Ip,D.l9,D.l7,li,ls,dK,dX,bP,iq,dW,h_,j_]at h;obtain⟨_,rfl,⟨_,rfl,⟨_,rfl,⟨_,_,_,_,rfl,rfl,s0,⟨rfl,rfl⟩⟩⟩⟩⟩:=h;exact⟨_,_,_,rfl,by simp,rfl,s0⟩
theorem GExpr.qg(x:GExpr):x.toD.l9=D.cnts (x.args.map GExpr.toD):=by
 simp only[GExpr.aj,D.l9,D.l7,li,ls]
 try omega
theorem CQ(l:List GExpr)(hM0:∀x∈l,bC Try.prog 63 (x.args.map GExpr.toD)):bC Try.prog 63 (l.map GExpr.toD):=by
 intro w fp v k hS hF hk0 hk1;obtain⟨A,c,rfl,hl,hc⟩:=hS.ak;have hm:l.length≤9223372036854775807:=by unfold maxLen at hc;omega
 clear hl hc
 go_enter Try.func63,Try.ntmps63
 go_wp2_with fail
 go_loopw [1,5] (fun kv iv wr=>∃(i:Nat) (K:Int),i≤l.length∧iv= .int .i64 i∧kv= .int .i64 K∧K=k+D.cnts ((l.map GExpr.toD).take i)∧Sl wr (part (l.map GExpr.toD) k i) fp (.slice A l.length c)∧Touch fp w wr) (fun _ iv _=>l.length - (intOf iv).toNat)
 case atStart=>exact⟨0,k,by omega,rfl,rfl,by simp[D.fG],by rw[kM];exact hS,Touch.refl _ _⟩
 case round=>
  obtain⟨i,K,hi,rfl,rfl,hK,hSi,hT⟩:=hrel;by_cases hlt:i<l.length
  ·have hi':i<(l.map GExpr.toD).length:=by rw[a_];exact hlt
   have hcn:=D.fP (l.map GExpr.toD) hi';have hle:=D.dB (l.map GExpr.toD) (i+1);rw[b_,GExpr.jG]at hcn;have hk2:0≤K:=by omega
   have hk3:K+3+(D.cnts (l[i].args.map GExpr.toD):Int)≤4611686018427387904:=by omega
   have hK':=d_ hK;have hcn':=d_ hcn;have hFr:=hF.touch (R.lt hS) hT;obtain⟨b,o,fi,ci,rfl,hbb,hbf,hri,hfi,hbn,hfn,hat,hback⟩:=hSi.focus hF.1 (ji GExpr.szs k i) (lT (l.map GExpr.toD) k hi')
   rw[b_]at hri;clear hK hcn hle;obtain⟨v0,fi,rfl,rfl,hV0⟩:=GExpr.opened.1 hri;obtain⟨A0,c0,rfl,hqa,hqb⟩:=hV0.ak;clear hqa hqb;have nd0:=hfn;have bn0:b∉fi:=fun hx=>hbn (by first|exact hx|simp[hx])
   have Fr0:aX wr 0 fi:=hFr.sub nd0 (fun x hx=>hfi x (by first|exact hx|simp[hx]));have z0:∀off,wr.frozen? ⟨b,off,none⟩=false:=fun off=>(hFr.2 b hbf).2 off
   clear hri;have hI0:Inr b (o+i*4) (o+i*4+4) [] wr wr:=Inr.refl _ _ _ _ _;have hA0:=hat;clear hat;have q0:=hA0.head;have q1:=hA0.nth 1 rfl
   go_wp2_with fail
   refine(gX _ _ (by omega)).mono ?_;rintro e w1 ⟨rfl,hb1⟩;have hbW:=((hI0.setCell (off:=o+i*4) (by omega) (by omega) (.int .i64 (K))).setCell (off:=o+i*4+1) (by omega) (by omega) (.int .i64 (K+1)))
   have hI1:=(((hI0.setCell (off:=o+i*4) (by omega) (by omega) (.int .i64 (K))).setCell (off:=o+i*4+1) (by omega) (by omega) (.int .i64 (K+1)))).below hbb hb1;have hA1:=(((hA0.set (j:=0) (by simp) (.int .i64 (K))).set (j:=1) (by simp) (.int .i64 (K+1)))).below (c_ hbb hbW.size) hb1;have z1:∀off,w1.frozen? ⟨b,off,none⟩=false:=fun off=>(hI1.froz b off hbb).trans (hFr.2 b hbf |>.2 off)
   clear hbW hb1 z0 hA0 hI0 q0 q1;have q2:=hA1.nth 2 rfl;have q3:=hA1.nth 3 rfl
   go_wp2_with fail
   have hbW:=(hI1.setCell (off:=o+i*4+2) (by omega) (by omega) (.string (iY (K+1+1))))
   refine(hM0 _ (i_ hlt) _ fi _ _ (hV0.inr hbW bn0 (fun x hx=>dL)) (Fr0.inr (R.lt hV0) hbW) (by omega) (by omega)).mono ?_;rintro e w2 ⟨rfl,hS0,hb2⟩;have hI2:=(((hI1.setCell (off:=o+i*4+2) (by omega) (by omega) (.string (iY (K+1+1))))).mono (F':= []++fi) (fun x hx=>f_ _ hx)).touch hbb hb2 (fun x hx=>e_ _ hx) bn0;have hA2:=((hA1.set (j:=2) (by simp) (.string (iY (K+1+1))))).touch (c_ hbb hbW.size) hb2 bn0;have hbb2:b<w2.heap.size:=c_ hbb hI2.size;have hJ0_2:Inr b (o+i*4) (o+i*4+4) [] w2 w2:=Inr.refl _ _ _ _ _;have z2:∀off,w2.frozen? ⟨b,off,none⟩=false:=fun off=>(hI2.froz b off hbb).trans (hFr.2 b hbf |>.2 off)
   clear hbW hb2 z1 hA1 hI1 q2 q3
   go_wp2_with fail
   have hIe:=hI2;have hAe:=hA2;have hSe0:=hS0.inr hJ0_2 bn0 (fun x hx=>dL);have hIf:=hIe.mono (F':=fi) (fun x hx=>by simpa using hx)
   go_roundw
   case rel=>
    refine⟨i+1,K+1+1+1+(D.cnts (l[i].args.map GExpr.toD):Int),by omega,by go_num,rfl, ?_, ?_,hT.trans (hIf.nR hbf hfi)⟩
    ·rw[hcn'.out];have:=hK'.out;push_cast;omega
    ·rw[← jL _ k hi',b_];exact hback _ _ _ (by rw[D.yj];exact GExpr.sz_eq _) (GExpr.qy (by have:=hK'.out;push_cast;omega) (by have:=hK'.out;push_cast;omega) (by have:=hK'.out;push_cast;omega) (by have:=hK'.out;push_cast;omega) hSe0) hAe hIf
   case measure=>(simp[intOf]<;>omega)
  ·have hf:=d_ (show i=l.length by omega);have hK':=d_ hK;clear hK
   go_wp2_with fail
   go_ret
   have e1:=hf.out;have e2:=hK'.out;rw[g_ (by rw[a_];omega)]at e2;rw[gU _ _ (by rw[a_];omega)]at hSi;exact⟨iZ e2,hSi,hT⟩
theorem GExpr.uN :∀(n:Nat) (x:GExpr),SizeOf.sizeOf x≤n→bC Try.prog 63 (x.args.map GExpr.toD)
 |0,x,h=>by cases x;simp at h
 |n+1,x,h=>CQ _ (fun y hy=>GExpr.uN n y (by have:=GExpr.lt_of_mem hy;omega))
theorem GPart.jG(x:GPart):x.toD.cnt=10+D.cnts (x.expr.args.map GExpr.toD)+D.cnts (x.value.list.map GVal.toD)+D.cnts (x.value.cols.map ls)+D.cnts (x.value.rows.map GRow.toD):=by
 simp only[GPart.aj,GExpr.aj,GVal.aj,D.cnt,D.cnts,li,ls]
 try omega
theorem GPart.qy{w:World}{x:GPart}{k:Int}{a0 a1 a2 a3 a4 a5 a6 a7 a8 a9 a10 a11 a12 a13:Int}{f0 f1 f2 f3:List Nat}{v0 v1 v2 v3:Value}(e0:a0=k)(e1:a1=k+((1:Nat):Int))(e2:a2=k+((1:Nat):Int)+((1:Nat):Int))(e3:a3=k+((1:Nat):Int)+((1:Nat):Int)+((1:Nat):Int))(e4:a4=k+((1:Nat):Int)+((1:Nat):Int)+((1:Nat):Int)+((1:Nat):Int))(e5:a5=k+((1:Nat):Int)+((1:Nat):Int)+((1:Nat):Int)+((1:Nat):Int)+((1:Nat):Int))(e6:a6=k+((1:Nat):Int)+((1:Nat):Int)+(((1+(1+(1+(D.cnts (x.expr.args.map GExpr.toD)+0)))):Nat):Int))(e7:a7=k+((1:Nat):Int)+((1:Nat):Int)+(((1+(1+(1+(D.cnts (x.expr.args.map GExpr.toD)+0)))):Nat):Int)+((1:Nat):Int))(e8:a8=k+((1:Nat):Int)+((1:Nat):Int)+(((1+(1+(1+(D.cnts (x.expr.args.map GExpr.toD)+0)))):Nat):Int)+((1:Nat):Int)+((1:Nat):Int))(e9:a9=k+((1:Nat):Int)+((1:Nat):Int)+(((1+(1+(1+(D.cnts (x.expr.args.map GExpr.toD)+0)))):Nat):Int)+((1:Nat):Int)+((1:Nat):Int)+((1:Nat):Int))(e10:a10=k+((1:Nat):Int)+((1:Nat):Int)+(((1+(1+(1+(D.cnts (x.expr.args.map GExpr.toD)+0)))):Nat):Int)+((1:Nat):Int)+((1:Nat):Int)+((1:Nat):Int)+((1:Nat):Int))(e11:a11=k+((1:Nat):Int)+((1:Nat):Int)+(((1+(1+(1+(D.cnts (x.expr.args.map GExpr.toD)+0)))):Nat):Int)+((1:Nat):Int)+((1:Nat):Int)+((1:Nat):Int)+((1:Nat):Int)+((D.cnts (x.value.list.map GVal.toD):Nat):Int))(e12:a12=k+((1:Nat):Int)+((1:Nat):Int)+(((1+(1+(1+(D.cnts (x.expr.args.map GExpr.toD)+0)))):Nat):Int)+((1:Nat):Int)+((1:Nat):Int)+((1:Nat):Int)+((1:Nat):Int)+((D.cnts (x.value.list.map GVal.toD):Nat):Int)+((D.cnts (x.value.cols.map ls):Nat):Int))(e13:a13=k+((1:Nat):Int)+((1:Nat):Int)+(((1+(1+(1+(D.cnts (x.expr.args.map GExpr.toD)+0)))):Nat):Int)+(((1+(1+(1+(1+(D.cnts (x.value.list.map GVal.toD)+(D.cnts (x.value.cols.map ls)+(D.cnts (x.value.rows.map GRow.toD)+0))))))):Nat):Int))(s0:Sl w (D.mks (x.expr.args.map GExpr.toD) a5) f0 v0)(s1:Sl w (D.mks (x.value.list.map GVal.toD) a10) f1 v1)(s2:Sl w (D.mks (x.value.cols.map ls) a11) f2 v2)(s3:Sl w (D.mks (x.value.rows.map GRow.toD) a12) f3 v3):R w (x.toD.mk k) (f0++(f1++(f2++(f3)))) [.int .i64 a0,.string (iY a1),.int .i64 a2,.int .i64 a3,.string (iY a4),v0,.int .i64 a6,.int .i64 a7,.int .i64 a8,.string (iY a9),v1,v2,v3,.int .i64 a13]:=by
 subst e0 e1 e2 e3 e4 e5 e6 e7 e8 e9 e10 e11 e12 e13;simp only[GPart.aj,GExpr.aj,GVal.aj,D.mk,D.mks,D.cnt,D.cnts,nD,li,ls,dK,dX,bP,iq,dW,h_,j_];exact⟨_,rfl,⟨_,rfl,⟨_,rfl,⟨_,rfl,⟨_,rfl,⟨_,_,_,_,rfl,rfl,s0,⟨_,rfl,⟨_,rfl,⟨_,rfl,⟨_,rfl,⟨_,_,_,_,rfl,rfl,s1,⟨_,_,_,_,rfl,rfl,s2,⟨_,_,_,_,(n_ _).symm,rfl,s3,⟨_,rfl,⟨rfl,rfl⟩⟩⟩⟩⟩⟩⟩⟩⟩⟩⟩⟩⟩⟩⟩
theorem GPart.nG{w:World}{x:GPart}{k:Int}{fp:List Nat}{cs:List Value}(h:R w (x.toD.mk k) fp cs):∃(a0 a1 a2 a3 a4 a5 a6 a7 a8 a9 a10 a11 a12 a13:Int) (v0 v1 v2 v3:Value) (f0 f1 f2 f3:List Nat),a0=k∧a1=k+((1:Nat):Int)∧a2=k+((1:Nat):Int)+((1:Nat):Int)∧a3=k+((1:Nat):Int)+((1:Nat):Int)+((1:Nat):Int)∧a4=k+((1:Nat):Int)+((1:Nat):Int)+((1:Nat):Int)+((1:Nat):Int)∧a5=k+((1:Nat):Int)+((1:Nat):Int)+((1:Nat):Int)+((1:Nat):Int)+((1:Nat):Int)∧a6=k+((1:Nat):Int)+((1:Nat):Int)+(((1+(1+(1+(D.cnts (x.expr.args.map GExpr.toD)+0)))):Nat):Int)∧a7=k+((1:Nat):Int)+((1:Nat):Int)+(((1+(1+(1+(D.cnts (x.expr.args.map GExpr.toD)+0)))):Nat):Int)+((1:Nat):Int)∧a8=k+((1:Nat):Int)+((1:Nat):Int)+(((1+(1+(1+(D.cnts (x.expr.args.map GExpr.toD)+0)))):Nat):Int)+((1:Nat):Int)+((1:Nat):Int)∧a9=k+((1:Nat):Int)+((1:Nat):Int)+(((1+(1+(1+(D.cnts (x.expr.args.map GExpr.toD)+0)))):Nat):Int)+((1:Nat):Int)+((1:Nat):Int)+((1:Nat):Int)∧a10=k+((1:Nat):Int)+((1:Nat):Int)+(((1+(1+(1+(D.cnts (x.expr.args.map GExpr.toD)+0)))):Nat):Int)+((1:Nat):Int)+((1:Nat):Int)+((1:Nat):Int)+((1:Nat):Int)∧a11=k+((1:Nat):Int)+((1:Nat):Int)+(((1+(1+(1+(D.cnts (x.expr.args.map GExpr.toD)+0)))):Nat):Int)+((1:Nat):Int)+((1:Nat):Int)+((1:Nat):Int)+((1:Nat):Int)+((D.cnts (x.value.list.map GVal.toD):Nat):Int)∧a12=k+((1:Nat):Int)+((1:Nat):Int)+(((1+(1+(1+(D.cnts (x.expr.args.map GExpr.toD)+0)))):Nat):Int)+((1:Nat):Int)+((1:Nat):Int)+((1:Nat):Int)+((1:Nat):Int)+((D.cnts (x.value.list.map GVal.toD):Nat):Int)+((D.cnts (x.value.cols.map ls):Nat):Int)∧a13=k+((1:Nat):Int)+((1:Nat):Int)+(((1+(1+(1+(D.cnts (x.expr.args.map GExpr.toD)+0)))):Nat):Int)+(((1+(1+(1+(1+(D.cnts (x.value.list.map GVal.toD)+(D.cnts (x.value.cols.map ls)+(D.cnts (x.value.rows.map GRow.toD)+0))))))):Nat):Int)∧fp=f0++(f1++(f2++(f3)))∧cs= [.int .i64 a0,.string (iY a1),.int .i64 a2,.int .i64 a3,.string (iY a4),v0,.int .i64 a6,.int .i64 a7,.int .i64 a8,.string (iY a9),v1,v2,v3,.int .i64 a13]∧Sl w (D.mks (x.expr.args.map GExpr.toD) a5) f0 v0∧Sl w (D.mks (x.value.list.map GVal.toD) a10) f1 v1∧Sl w (D.mks (x.value.cols.map ls) a11) f2 v2∧Sl w (D.mks (x.value.rows.map GRow.toD) a12) f3 v3:=by
 simp only[GPart.aj,GExpr.aj,GVal.aj,D.mk,D.mks,D.cnt,D.cnts,nD,li,ls,dK,dX,bP,iq,dW,h_,j_]at h;obtain⟨_,rfl,⟨_,rfl,⟨_,rfl,⟨_,rfl,⟨_,rfl,⟨_,_,_,_,rfl,rfl,s0,⟨_,rfl,⟨_,rfl,⟨_,rfl,⟨_,rfl,⟨_,_,_,_,rfl,rfl,s1,⟨_,_,_,_,rfl,rfl,s2,⟨_,_,_,_,rfl,rfl,s3,⟨_,rfl,⟨rfl,rfl⟩⟩⟩⟩⟩⟩⟩⟩⟩⟩⟩⟩⟩⟩⟩:=h;exact⟨_,_,_,_,_,_,_,_,_,_,_,_,_,_,_,_,_,_,_,_,_,_,rfl,rfl,rfl,rfl,rfl,rfl,rfl,rfl,rfl,rfl,rfl,rfl,rfl,rfl,by simp,rfl,s0,s1,s2,s3⟩
theorem GPart.rY{w:World}{x:GPart}{k:Int}{fp:List Nat}{cs:List Value}(h:R w (x.toD.amk k) fp cs):∃(a5 a10 a11 a12:Int) (v0 v1 v2 v3:Value) (f0 f1 f2 f3:List Nat),a5=k+((0:Nat):Int)+((0:Nat):Int)+((0:Nat):Int)+((0:Nat):Int)+((0:Nat):Int)∧a10=k+((0:Nat):Int)+((0:Nat):Int)+(((0+(0+(0+(D.cnts (x.expr.args.map GExpr.toD)+0)))):Nat):Int)+((0:Nat):Int)+((0:Nat):Int)+((0:Nat):Int)+((0:Nat):Int)∧a11=k+((0:Nat):Int)+((0:Nat):Int)+(((0+(0+(0+(D.cnts (x.expr.args.map GExpr.toD)+0)))):Nat):Int)+((0:Nat):Int)+((0:Nat):Int)+((0:Nat):Int)+((0:Nat):Int)+((D.cnts (x.value.list.map GVal.toD):Nat):Int)∧a12=k+((0:Nat):Int)+((0:Nat):Int)+(((0+(0+(0+(D.cnts (x.expr.args.map GExpr.toD)+0)))):Nat):Int)+((0:Nat):Int)+((0:Nat):Int)+((0:Nat):Int)+((0:Nat):Int)+((D.cnts (x.value.list.map GVal.toD):Nat):Int)+((D.cnts (x.value.cols.map ls):Nat):Int)∧fp=f0++(f1++(f2++(f3)))∧cs= [.int .i64 x.kind,.string x.name,.int .i64 x.expr.kind,.int .i64 x.expr.n,.string x.expr.text,v0,.int .i64 x.value.kind,.int .i64 x.value.n,.int .i64 x.value.step,.string x.value.text,v1,v2,v3,.int .i64 x.pos]∧Sl w (D.mks (x.expr.args.map GExpr.toD) a5) f0 v0∧Sl w (D.mks (x.value.list.map GVal.toD) a10) f1 v1∧Sl w (D.mks (x.value.cols.map ls) a11) f2 v2∧Sl w (D.mks (x.value.rows.map GRow.toD) a12) f3 v3:=by
 simp only[GPart.aj,GExpr.aj,GVal.aj,D.amk,D.Ip,D.l9,D.l7,li,ls,dK,dX,bP,iq,dW,h_,j_]at h;obtain⟨_,rfl,⟨_,rfl,⟨_,rfl,⟨_,rfl,⟨_,rfl,⟨_,_,_,_,rfl,rfl,s0,⟨_,rfl,⟨_,rfl,⟨_,rfl,⟨_,rfl,⟨_,_,_,_,rfl,rfl,s1,⟨_,_,_,_,rfl,rfl,s2,⟨_,_,_,_,rfl,rfl,s3,⟨_,rfl,⟨rfl,rfl⟩⟩⟩⟩⟩⟩⟩⟩⟩⟩⟩⟩⟩⟩⟩:=h;exact⟨_,_,_,_,_,_,_,_,_,_,_,_,rfl,rfl,rfl,rfl,by simp,rfl,s0,s1,s2,s3⟩
theorem GPart.qg(x:GPart):x.toD.l9=D.cnts (x.expr.args.map GExpr.toD)+D.cnts (x.value.list.map GVal.toD)+D.cnts (x.value.cols.map ls)+D.cnts (x.value.rows.map GRow.toD):=by
 simp only[GPart.aj,GExpr.aj,GVal.aj,D.l9,D.l7,li,ls]
 try omega
theorem GRead.jG(x:GRead):x.toD.cnt=8+D.cnts (x.result.list.map GVal.toD)+D.cnts (x.result.cols.map ls)+D.cnts (x.result.rows.map GRow.toD):=by
 simp only[GRead.aj,GVal.aj,D.cnt,D.cnts,li,ls]
 try omega
theorem GRead.qy{w:World}{x:GRead}{k:Int}{a0 a1 a2 a3 a4 a5 a6 a7 a8 a9 a10:Int}{f0 f1 f2:List Nat}{v0 v1 v2:Value}(e0:a0=k)(e1:a1=k+((1:Nat):Int))(e2:a2=k+((1:Nat):Int)+((1:Nat):Int))(e3:a3=k+((1:Nat):Int)+((1:Nat):Int)+((1:Nat):Int))(e4:a4=k+((1:Nat):Int)+((1:Nat):Int)+((1:Nat):Int)+((1:Nat):Int))(e5:a5=k+((1:Nat):Int)+((1:Nat):Int)+((1:Nat):Int)+((1:Nat):Int)+((1:Nat):Int))(e6:a6=k+((1:Nat):Int)+((1:Nat):Int)+((1:Nat):Int)+((1:Nat):Int)+((1:Nat):Int)+((1:Nat):Int))(e7:a7=k+((1:Nat):Int)+((1:Nat):Int)+((1:Nat):Int)+((1:Nat):Int)+((1:Nat):Int)+((1:Nat):Int)+((1:Nat):Int))(e8:a8=k+((1:Nat):Int)+((1:Nat):Int)+((1:Nat):Int)+((1:Nat):Int)+((1:Nat):Int)+((1:Nat):Int)+((1:Nat):Int)+((1:Nat):Int))(e9:a9=k+((1:Nat):Int)+((1:Nat):Int)+((1:Nat):Int)+((1:Nat):Int)+((1:Nat):Int)+((1:Nat):Int)+((1:Nat):Int)+((1:Nat):Int)+((D.cnts (x.result.list.map GVal.toD):Nat):Int))(e10:a10=k+((1:Nat):Int)+((1:Nat):Int)+((1:Nat):Int)+((1:Nat):Int)+((1:Nat):Int)+((1:Nat):Int)+((1:Nat):Int)+((1:Nat):Int)+((D.cnts (x.result.list.map GVal.toD):Nat):Int)+((D.cnts (x.result.cols.map ls):Nat):Int))(s0:Sl w (D.mks (x.result.list.map GVal.toD) a8) f0 v0)(s1:Sl w (D.mks (x.result.cols.map ls) a9) f1 v1)(s2:Sl w (D.mks (x.result.rows.map GRow.toD) a10) f2 v2):R w (x.toD.mk k) (f0++(f1++(f2))) [.int .i64 a0,.int .i64 a1,.int .i64 a2,.string (iY a3),.int .i64 a4,.int .i64 a5,.int .i64 a6,.string (iY a7),v0,v1,v2]:=by
 subst e0 e1 e2 e3 e4 e5 e6 e7 e8 e9 e10;simp only[GRead.aj,GVal.aj,D.mk,D.mks,D.cnt,D.cnts,nD,li,ls,dK,dX,bP,iq,dW,h_,j_];exact⟨_,rfl,⟨_,rfl,⟨_,rfl,⟨_,rfl,⟨_,rfl,⟨_,rfl,⟨_,rfl,⟨_,rfl,⟨_,_,_,_,rfl,rfl,s0,⟨_,_,_,_,rfl,rfl,s1,⟨_,_,_,_,(n_ _).symm,rfl,s2,⟨rfl,rfl⟩⟩⟩⟩⟩⟩⟩⟩⟩⟩⟩⟩
theorem GRead.nG{w:World}{x:GRead}{k:Int}{fp:List Nat}{cs:List Value}(h:R w (x.toD.mk k) fp cs):∃(a0 a1 a2 a3 a4 a5 a6 a7 a8 a9 a10:Int) (v0 v1 v2:Value) (f0 f1 f2:List Nat),a0=k∧a1=k+((1:Nat):Int)∧a2=k+((1:Nat):Int)+((1:Nat):Int)∧a3=k+((1:Nat):Int)+((1:Nat):Int)+((1:Nat):Int)∧a4=k+((1:Nat):Int)+((1:Nat):Int)+((1:Nat):Int)+((1:Nat):Int)∧a5=k+((1:Nat):Int)+((1:Nat):Int)+((1:Nat):Int)+((1:Nat):Int)+((1:Nat):Int)∧a6=k+((1:Nat):Int)+((1:Nat):Int)+((1:Nat):Int)+((1:Nat):Int)+((1:Nat):Int)+((1:Nat):Int)∧a7=k+((1:Nat):Int)+((1:Nat):Int)+((1:Nat):Int)+((1:Nat):Int)+((1:Nat):Int)+((1:Nat):Int)+((1:Nat):Int)∧a8=k+((1:Nat):Int)+((1:Nat):Int)+((1:Nat):Int)+((1:Nat):Int)+((1:Nat):Int)+((1:Nat):Int)+((1:Nat):Int)+((1:Nat):Int)∧a9=k+((1:Nat):Int)+((1:Nat):Int)+((1:Nat):Int)+((1:Nat):Int)+((1:Nat):Int)+((1:Nat):Int)+((1:Nat):Int)+((1:Nat):Int)+((D.cnts (x.result.list.map GVal.toD):Nat):Int)∧a10=k+((1:Nat):Int)+((1:Nat):Int)+((1:Nat):Int)+((1:Nat):Int)+((1:Nat):Int)+((1:Nat):Int)+((1:Nat):Int)+((1:Nat):Int)+((D.cnts (x.result.list.map GVal.toD):Nat):Int)+((D.cnts (x.result.cols.map ls):Nat):Int)∧fp=f0++(f1++(f2))∧cs= [.int .i64 a0,.int .i64 a1,.int .i64 a2,.string (iY a3),.int .i64 a4,.int .i64 a5,.int .i64 a6,.string (iY a7),v0,v1,v2]∧Sl w (D.mks (x.result.list.map GVal.toD) a8) f0 v0∧Sl w (D.mks (x.result.cols.map ls) a9) f1 v1∧Sl w (D.mks (x.result.rows.map GRow.toD) a10) f2 v2:=by
 simp only[GRead.aj,GVal.aj,D.mk,D.mks,D.cnt,D.cnts,nD,li,ls,dK,dX,bP,iq,dW,h_,j_]at h;obtain⟨_,rfl,⟨_,rfl,⟨_,rfl,⟨_,rfl,⟨_,rfl,⟨_,rfl,⟨_,rfl,⟨_,rfl,⟨_,_,_,_,rfl,rfl,s0,⟨_,_,_,_,rfl,rfl,s1,⟨_,_,_,_,rfl,rfl,s2,⟨rfl,rfl⟩⟩⟩⟩⟩⟩⟩⟩⟩⟩⟩⟩:=h;exact⟨_,_,_,_,_,_,_,_,_,_,_,_,_,_,_,_,_,rfl,rfl,rfl,rfl,rfl,rfl,rfl,rfl,rfl,rfl,rfl,by simp,rfl,s0,s1,s2⟩
theorem GRead.rY{w:World}{x:GRead}{k:Int}{fp:List Nat}{cs:List Value}(h:R w (x.toD.amk k) fp cs):∃(a8 a9 a10:Int) (v0 v1 v2:Value) (f0 f1 f2:List Nat),a8=k+((0:Nat):Int)+((0:Nat):Int)+((0:Nat):Int)+((0:Nat):Int)+((0:Nat):Int)+((0:Nat):Int)+((0:Nat):Int)+((0:Nat):Int)∧a9=k+((0:Nat):Int)+((0:Nat):Int)+((0:Nat):Int)+((0:Nat):Int)+((0:Nat):Int)+((0:Nat):Int)+((0:Nat):Int)+((0:Nat):Int)+((D.cnts (x.result.list.map GVal.toD):Nat):Int)∧a10=k+((0:Nat):Int)+((0:Nat):Int)+((0:Nat):Int)+((0:Nat):Int)+((0:Nat):Int)+((0:Nat):Int)+((0:Nat):Int)+((0:Nat):Int)+((D.cnts (x.result.list.map GVal.toD):Nat):Int)+((D.cnts (x.result.cols.map ls):Nat):Int)∧fp=f0++(f1++(f2))∧cs= [.int .i64 x.kind,.int .i64 x.n,.int .i64 x.time,.string x.text,.int .i64 x.result.kind,.int .i64 x.result.n,.int .i64 x.result.step,.string x.result.text,v0,v1,v2]∧Sl w (D.mks (x.result.list.map GVal.toD) a8) f0 v0∧Sl w (D.mks (x.result.cols.map ls) a9) f1 v1∧Sl w (D.mks (x.result.rows.map GRow.toD) a10) f2 v2:=by
 simp only[GRead.aj,GVal.aj,D.amk,D.Ip,D.l9,D.l7,li,ls,dK,dX,bP,iq,dW,h_,j_]at h;obtain⟨_,rfl,⟨_,rfl,⟨_,rfl,⟨_,rfl,⟨_,rfl,⟨_,rfl,⟨_,rfl,⟨_,rfl,⟨_,_,_,_,rfl,rfl,s0,⟨_,_,_,_,rfl,rfl,s1,⟨_,_,_,_,rfl,rfl,s2,⟨rfl,rfl⟩⟩⟩⟩⟩⟩⟩⟩⟩⟩⟩⟩:=h;exact⟨_,_,_,_,_,_,_,_,_,rfl,rfl,rfl,by simp,rfl,s0,s1,s2⟩
theorem GRead.qg(x:GRead):x.toD.l9=D.cnts (x.result.list.map GVal.toD)+D.cnts (x.result.cols.map ls)+D.cnts (x.result.rows.map GRow.toD):=by
 simp only[GRead.aj,GVal.aj,D.l9,D.l7,li,ls]
 try omega
theorem CO(l:List GRead)(hM0:∀x∈l,bC Try.prog 26 (x.result.list.map GVal.toD))(hM1:∀x∈l,bC Try.prog 45 (x.result.cols.map ls))(hM2:∀x∈l,bC Try.prog 46 (x.result.rows.map GRow.toD)):bC Try.prog 14 (l.map GRead.toD):=by
 intro w fp v k hS hF hk0 hk1;obtain⟨A,c,rfl,hl,hc⟩:=hS.ak;have hm:l.length≤9223372036854775807:=by unfold maxLen at hc;omega
 clear hl hc
 go_enter Try.func14,Try.ntmps14
 go_wp2_with fail
 go_loopw [1,5] (fun kv iv wr=>∃(i:Nat) (K:Int),i≤l.length∧iv= .int .i64 i∧kv= .int .i64 K∧K=k+D.cnts ((l.map GRead.toD).take i)∧Sl wr (part (l.map GRead.toD) k i) fp (.slice A l.length c)∧Touch fp w wr) (fun _ iv _=>l.length - (intOf iv).toNat)
 case atStart=>exact⟨0,k,by omega,rfl,rfl,by simp[D.fG],by rw[kM];exact hS,Touch.refl _ _⟩
 case round=>
  obtain⟨i,K,hi,rfl,rfl,hK,hSi,hT⟩:=hrel;by_cases hlt:i<l.length
  ·have hi':i<(l.map GRead.toD).length:=by rw[a_];exact hlt
   have hcn:=D.fP (l.map GRead.toD) hi';have hle:=D.dB (l.map GRead.toD) (i+1);rw[b_,GRead.jG]at hcn;have hk2:0≤K:=by omega
   have hk3:K+8+(D.cnts (l[i].result.list.map GVal.toD):Int)+(D.cnts (l[i].result.cols.map ls):Int)+(D.cnts (l[i].result.rows.map GRow.toD):Int)≤4611686018427387904:=by omega
   have hK':=d_ hK;have hcn':=d_ hcn;have hFr:=hF.touch (R.lt hS) hT;obtain⟨b,o,fi,ci,rfl,hbb,hbf,hri,hfi,hbn,hfn,hat,hback⟩:=hSi.focus hF.1 (ji GRead.szs k i) (lT (l.map GRead.toD) k hi')
   rw[b_]at hri;clear hK hcn hle;obtain⟨v0,v1,v2,g0,g1,g2,rfl,rfl,hV0,hV1,hV2⟩:=GRead.opened.1 hri;obtain⟨A0,c0,rfl,hqa,hqb⟩:=hV0.ak;clear hqa hqb;obtain⟨A1,c1,rfl,hqa,hqb⟩:=hV1.ak;clear hqa hqb;obtain⟨A2,c2,rfl,hqa,hqb⟩:=hV2.ak;clear hqa hqb;have nN1:=(k_.1 hfn).2.1;have nd0:=(k_.1 hfn).1;have D0_1:∀x∈g1,x∉g0:=fun x hx hy=>(k_.1 hfn).2.2 x hy x (by simp[hx]) rfl
   have D1_0:∀x∈g0,x∉g1:=fun x hx hy=>D0_1 x hy hx
   have D0_2:∀x∈g2,x∉g0:=fun x hx hy=>(k_.1 hfn).2.2 x hy x (by simp[hx]) rfl
   have D2_0:∀x∈g0,x∉g2:=fun x hx hy=>D0_2 x hy hx
   have nN2:=(k_.1 nN1).2.1;have nd1:=(k_.1 nN1).1;have D1_2:∀x∈g2,x∉g1:=fun x hx hy=>(k_.1 nN1).2.2 x hy x (by simp[hx]) rfl
   have D2_1:∀x∈g1,x∉g2:=fun x hx hy=>D1_2 x hy hx
   have nd2:=nN2;have bn0:b∉g0:=fun hx=>hbn (by first|exact hx|simp[hx])
   have Fr0:aX wr 0 g0:=hFr.sub nd0 (fun x hx=>hfi x (by first|exact hx|simp[hx]));have bn1:b∉g1:=fun hx=>hbn (by first|exact hx|simp[hx])
   have Fr1:aX wr 0 g1:=hFr.sub nd1 (fun x hx=>hfi x (by first|exact hx|simp[hx]));have bn2:b∉g2:=fun hx=>hbn (by first|exact hx|simp[hx])
   have Fr2:aX wr 0 g2:=hFr.sub nd2 (fun x hx=>hfi x (by first|exact hx|simp[hx]));have z0:∀off,wr.frozen? ⟨b,off,none⟩=false:=fun off=>(hFr.2 b hbf).2 off
   clear hri;have hI0:Inr b (o+i*11) (o+i*11+11) [] wr wr:=Inr.refl _ _ _ _ _;have hA0:=hat;clear hat;have q0:=hA0.head;have q1:=hA0.nth 1 rfl;have q2:=hA0.nth 2 rfl
   go_wp2_with fail
   refine(gX _ _ (by omega)).mono ?_;rintro e w1 ⟨rfl,hb1⟩;have hbW:=(((hI0.setCell (off:=o+i*11) (by omega) (by omega) (.int .i64 (K))).setCell (off:=o+i*11+1) (by omega) (by omega) (.int .i64 (K+1))).setCell (off:=o+i*11+2) (by omega) (by omega) (.int .i64 (K+1+1)))
   have hI1:=((((hI0.setCell (off:=o+i*11) (by omega) (by omega) (.int .i64 (K))).setCell (off:=o+i*11+1) (by omega) (by omega) (.int .i64 (K+1))).setCell (off:=o+i*11+2) (by omega) (by omega) (.int .i64 (K+1+1)))).below hbb hb1;have hA1:=((((hA0.set (j:=0) (by simp) (.int .i64 (K))).set (j:=1) (by simp) (.int .i64 (K+1))).set (j:=2) (by simp) (.int .i64 (K+1+1)))).below (c_ hbb hbW.size) hb1;have z1:∀off,w1.frozen? ⟨b,off,none⟩=false:=fun off=>(hI1.froz b off hbb).trans (hFr.2 b hbf |>.2 off)
   clear hbW hb1 z0 hA0 hI0 q0 q1 q2;have q3:=hA1.nth 3 rfl;have q4:=hA1.nth 4 rfl;have q5:=hA1.nth 5 rfl;have q6:=hA1.nth 6 rfl
   go_wp2_with fail
   refine(gX _ _ (by omega)).mono ?_;rintro e w2 ⟨rfl,hb2⟩;have hbW:=((((hI1.setCell (off:=o+i*11+3) (by omega) (by omega) (.string (iY (K+1+1+1)))).setCell (off:=o+i*11+4) (by omega) (by omega) (.int .i64 (K+1+1+1+1))).setCell (off:=o+i*11+5) (by omega) (by omega) (.int .i64 (K+1+1+1+1+1))).setCell (off:=o+i*11+6) (by omega) (by omega) (.int .i64 (K+1+1+1+1+1+1)))
   have hI2:=(((((hI1.setCell (off:=o+i*11+3) (by omega) (by omega) (.string (iY (K+1+1+1)))).setCell (off:=o+i*11+4) (by omega) (by omega) (.int .i64 (K+1+1+1+1))).setCell (off:=o+i*11+5) (by omega) (by omega) (.int .i64 (K+1+1+1+1+1))).setCell (off:=o+i*11+6) (by omega) (by omega) (.int .i64 (K+1+1+1+1+1+1)))).below hbb hb2;have hA2:=(((((hA1.set (j:=3) (by simp) (.string (iY (K+1+1+1)))).set (j:=4) (by simp) (.int .i64 (K+1+1+1+1))).set (j:=5) (by simp) (.int .i64 (K+1+1+1+1+1))).set (j:=6) (by simp) (.int .i64 (K+1+1+1+1+1+1)))).below (c_ hbb hbW.size) hb2;have z2:∀off,w2.frozen? ⟨b,off,none⟩=false:=fun off=>(hI2.froz b off hbb).trans (hFr.2 b hbf |>.2 off)
   clear hbW hb2 z1 hA1 hI1 q3 q4 q5 q6;have q7:=hA2.nth 7 rfl;have q8:=hA2.nth 8 rfl
   go_wp2_with fail
   have hbW:=(hI2.setCell (off:=o+i*11+7) (by omega) (by omega) (.string (iY (K+1+1+1+1+1+1+1))))
   refine(hM0 _ (i_ hlt) _ g0 _ _ (hV0.inr hbW bn0 (fun x hx=>dL)) (Fr0.inr (R.lt hV0) hbW) (by omega) (by omega)).mono ?_;rintro e w3 ⟨rfl,hS0,hb3⟩;have hI3:=(((hI2.setCell (off:=o+i*11+7) (by omega) (by omega) (.string (iY (K+1+1+1+1+1+1+1))))).mono (F':= []++g0) (fun x hx=>f_ _ hx)).touch hbb hb3 (fun x hx=>e_ _ hx) bn0;have hA3:=((hA2.set (j:=7) (by simp) (.string (iY (K+1+1+1+1+1+1+1))))).touch (c_ hbb hbW.size) hb3 bn0;have hbb3:b<w3.heap.size:=c_ hbb hI3.size;have hJ0_3:Inr b (o+i*11) (o+i*11+11) [] w3 w3:=Inr.refl _ _ _ _ _;have z3:∀off,w3.frozen? ⟨b,off,none⟩=false:=fun off=>(hI3.froz b off hbb).trans (hFr.2 b hbf |>.2 off)
   clear hbW hb3 z2 hA2 hI2 q7 q8;have q9:=hA3.nth 9 rfl
   go_wp2_with fail
   have hbW:=hI3;refine(hM1 _ (i_ hlt) _ g1 _ _ (hV1.inr hbW bn1 (fun x hx=>gK (dL) (D0_1 x hx))) (Fr1.inr (R.lt hV1) hbW) (by omega) (by omega)).mono ?_;rintro e w4 ⟨rfl,hS1,hb4⟩;have hI4:=((hI3).mono (F':=([]++g0)++g1) (fun x hx=>f_ _ hx)).touch hbb hb4 (fun x hx=>e_ _ hx) bn1;have hJ0_4:=((hJ0_3).mono (F':= []++g1) (fun x hx=>f_ _ hx)).touch hbb3 hb4 (fun x hx=>e_ _ hx) bn1;have hA4:=(hA3).touch (c_ hbb hbW.size) hb4 bn1;have hbb4:b<w4.heap.size:=c_ hbb hI4.size;have hJ1_4:Inr b (o+i*11) (o+i*11+11) [] w4 w4:=Inr.refl _ _ _ _ _;have z4:∀off,w4.frozen? ⟨b,off,none⟩=false:=fun off=>(hI4.froz b off hbb).trans (hFr.2 b hbf |>.2 off)
   clear hbW hb4 z3 hA3 hI3 hJ0_3 q9;have q10:=hA4.nth 10 rfl
   go_wp2_with fail
   have hbW:=hI4;refine(hM2 _ (i_ hlt) _ g2 _ _ (hV2.inr hbW bn2 (fun x hx=>gK (gK (dL) (D0_2 x hx)) (D1_2 x hx))) (Fr2.inr (R.lt hV2) hbW) (by omega) (by omega)).mono ?_;rintro e w5 ⟨rfl,hS2,hb5⟩;have hI5:=((hI4).mono (F':=(([]++g0)++g1)++g2) (fun x hx=>f_ _ hx)).touch hbb hb5 (fun x hx=>e_ _ hx) bn2;have hJ0_5:=((hJ0_4).mono (F':=([]++g1)++g2) (fun x hx=>f_ _ hx)).touch hbb3 hb5 (fun x hx=>e_ _ hx) bn2;have hJ1_5:=((hJ1_4).mono (F':= []++g2) (fun x hx=>f_ _ hx)).touch hbb4 hb5 (fun x hx=>e_ _ hx) bn2;have hA5:=(hA4).touch (c_ hbb hbW.size) hb5 bn2;have hbb5:b<w5.heap.size:=c_ hbb hI5.size;have hJ2_5:Inr b (o+i*11) (o+i*11+11) [] w5 w5:=Inr.refl _ _ _ _ _;have z5:∀off,w5.frozen? ⟨b,off,none⟩=false:=fun off=>(hI5.froz b off hbb).trans (hFr.2 b hbf |>.2 off)
   clear hbW hb5 z4 hA4 hI4 hJ0_4 hJ1_4 q10
   go_wp2_with fail
   have hIe:=hI5;have hAe:=hA5;have hSe0:=hS0.inr hJ0_5 bn0 (fun x hx=>gK (gK (dL) (D1_0 x hx)) (D2_0 x hx));have hSe1:=hS1.inr hJ1_5 bn1 (fun x hx=>gK (dL) (D2_1 x hx));have hSe2:=hS2.inr hJ2_5 bn2 (fun x hx=>dL);have hIf:=hIe.mono (F':=g0++(g1++(g2))) (fun x hx=>by
    simp only[o_,p_,false_or]at hx;rcases hx with(h|h)|h<;>simp[h])
   go_roundw
   case rel=>
    refine⟨i+1,K+1+1+1+1+1+1+1+1+(D.cnts (l[i].result.list.map GVal.toD):Int)+(D.cnts (l[i].result.cols.map ls):Int)+(D.cnts (l[i].result.rows.map GRow.toD):Int),by omega,by go_num,rfl, ?_, ?_,hT.trans (hIf.nR hbf hfi)⟩
    ·rw[hcn'.out];have:=hK'.out;push_cast;omega
    ·rw[← jL _ k hi',b_];exact hback _ _ _ (by rw[D.yj];exact GRead.sz_eq _) (GRead.qy (by have:=hK'.out;push_cast;omega) (by have:=hK'.out;push_cast;omega) (by have:=hK'.out;push_cast;omega) (by have:=hK'.out;push_cast;omega) (by have:=hK'.out;push_cast;omega) (by have:=hK'.out;push_cast;omega) (by have:=hK'.out;push_cast;omega) (by have:=hK'.out;push_cast;omega) (by have:=hK'.out;push_cast;omega) (by have:=hK'.out;push_cast;omega) (by have:=hK'.out;push_cast;omega) hSe0 hSe1 hSe2) hAe hIf
   case measure=>(simp[intOf]<;>omega)
  ·have hf:=d_ (show i=l.length by omega);have hK':=d_ hK;clear hK
   go_wp2_with fail
   go_ret
   have e1:=hf.out;have e2:=hK'.out;rw[g_ (by rw[a_];omega)]at e2;rw[gU _ _ (by rw[a_];omega)]at hSi;exact⟨iZ e2,hSi,hT⟩
theorem BA(l:List GRead):bC Try.prog 14 (l.map GRead.toD):=CO l (fun y _=>Iw _) (fun y _=>qm _) (fun y _=>xU _)
theorem GTape.jG(x:GTape):x.toD.cnt=2+D.cnts (x.reads.map GRead.toD):=by
 simp only[GTape.aj,D.cnt,D.cnts,li,ls]
 try omega
theorem GTape.qy{w:World}{x:GTape}{k:Int}{a0 a1 a2:Int}{f0:List Nat}{v0:Value}(e0:a0=k)(e1:a1=k+((1:Nat):Int))(e2:a2=k+((1:Nat):Int)+((1:Nat):Int))(s0:Sl w (D.mks (x.reads.map GRead.toD) a2) f0 v0):R w (x.toD.mk k) (f0) [.int .i64 a0,.int .i64 a1,v0]:=by
 subst e0 e1 e2;simp only[GTape.aj,D.mk,D.mks,D.cnt,D.cnts,nD,li,ls,dK,dX,bP,iq,dW,h_,j_];exact⟨_,rfl,⟨_,rfl,⟨_,_,_,_,(n_ _).symm,rfl,s0,⟨rfl,rfl⟩⟩⟩⟩
theorem GTape.nG{w:World}{x:GTape}{k:Int}{fp:List Nat}{cs:List Value}(h:R w (x.toD.mk k) fp cs):∃(a0 a1 a2:Int) (v0:Value) (f0:List Nat),a0=k∧a1=k+((1:Nat):Int)∧a2=k+((1:Nat):Int)+((1:Nat):Int)∧fp=f0∧cs= [.int .i64 a0,.int .i64 a1,v0]∧Sl w (D.mks (x.reads.map GRead.toD) a2) f0 v0:=by
 simp only[GTape.aj,D.mk,D.mks,D.cnt,D.cnts,nD,li,ls,dK,dX,bP,iq,dW,h_,j_]at h;obtain⟨_,rfl,⟨_,rfl,⟨_,_,_,_,rfl,rfl,s0,⟨rfl,rfl⟩⟩⟩⟩:=h;exact⟨_,_,_,_,_,rfl,rfl,rfl,by simp,rfl,s0⟩
theorem GTape.rY{w:World}{x:GTape}{k:Int}{fp:List Nat}{cs:List Value}(h:R w (x.toD.amk k) fp cs):∃(a2:Int) (v0:Value) (f0:List Nat),a2=k+((0:Nat):Int)+((0:Nat):Int)∧fp=f0∧cs= [.int .i64 x.cell,.int .i64 x.ver,v0]∧Sl w (D.mks (x.reads.map GRead.toD) a2) f0 v0:=by
 simp only[GTape.aj,D.amk,D.Ip,D.l9,D.l7,li,ls,dK,dX,bP,iq,dW,h_,j_]at h;obtain⟨_,rfl,⟨_,rfl,⟨_,_,_,_,rfl,rfl,s0,⟨rfl,rfl⟩⟩⟩⟩:=h;exact⟨_,_,_,rfl,by simp,rfl,s0⟩
theorem GTape.qg(x:GTape):x.toD.l9=D.cnts (x.reads.map GRead.toD):=by
 simp only[GTape.aj,D.l9,D.l7,li,ls]
 try omega
theorem CG(l:List GTape)(hM0:∀x∈l,bC Try.prog 14 (x.reads.map GRead.toD)):bC Try.prog 13 (l.map GTape.toD):=by
 intro w fp v k hS hF hk0 hk1;obtain⟨A,c,rfl,hl,hc⟩:=hS.ak;have hm:l.length≤9223372036854775807:=by unfold maxLen at hc;omega
 clear hl hc
 go_enter Try.func13,Try.ntmps13
 go_wp2_with fail
 go_loopw [1,5] (fun kv iv wr=>∃(i:Nat) (K:Int),i≤l.length∧iv= .int .i64 i∧kv= .int .i64 K∧K=k+D.cnts ((l.map GTape.toD).take i)∧Sl wr (part (l.map GTape.toD) k i) fp (.slice A l.length c)∧Touch fp w wr) (fun _ iv _=>l.length - (intOf iv).toNat)
 case atStart=>exact⟨0,k,by omega,rfl,rfl,by simp[D.fG],by rw[kM];exact hS,Touch.refl _ _⟩
 case round=>
  obtain⟨i,K,hi,rfl,rfl,hK,hSi,hT⟩:=hrel;by_cases hlt:i<l.length
  ·have hi':i<(l.map GTape.toD).length:=by rw[a_];exact hlt
   have hcn:=D.fP (l.map GTape.toD) hi';have hle:=D.dB (l.map GTape.toD) (i+1);rw[b_,GTape.jG]at hcn;have hk2:0≤K:=by omega
   have hk3:K+2+(D.cnts (l[i].reads.map GRead.toD):Int)≤4611686018427387904:=by omega
   have hK':=d_ hK;have hcn':=d_ hcn;have hFr:=hF.touch (R.lt hS) hT;obtain⟨b,o,fi,ci,rfl,hbb,hbf,hri,hfi,hbn,hfn,hat,hback⟩:=hSi.focus hF.1 (ji GTape.szs k i) (lT (l.map GTape.toD) k hi')
   rw[b_]at hri;clear hK hcn hle;obtain⟨v0,fi,rfl,rfl,hV0⟩:=GTape.opened.1 hri;obtain⟨A0,c0,rfl,hqa,hqb⟩:=hV0.ak;clear hqa hqb;have nd0:=hfn;have bn0:b∉fi:=fun hx=>hbn (by first|exact hx|simp[hx])
   have Fr0:aX wr 0 fi:=hFr.sub nd0 (fun x hx=>hfi x (by first|exact hx|simp[hx]));have z0:∀off,wr.frozen? ⟨b,off,none⟩=false:=fun off=>(hFr.2 b hbf).2 off
   clear hri;have hI0:Inr b (o+i*3) (o+i*3+3) [] wr wr:=Inr.refl _ _ _ _ _;have hA0:=hat;clear hat;have q0:=hA0.head;have q1:=hA0.nth 1 rfl;have q2:=hA0.nth 2 rfl
   go_wp2_with fail
   have hbW:=((hI0.setCell (off:=o+i*3) (by omega) (by omega) (.int .i64 (K))).setCell (off:=o+i*3+1) (by omega) (by omega) (.int .i64 (K+1)))
   refine(hM0 _ (i_ hlt) _ fi _ _ (hV0.inr hbW bn0 (fun x hx=>dL)) (Fr0.inr (R.lt hV0) hbW) (by omega) (by omega)).mono ?_;rintro e w1 ⟨rfl,hS0,hb1⟩;have hI1:=((((hI0.setCell (off:=o+i*3) (by omega) (by omega) (.int .i64 (K))).setCell (off:=o+i*3+1) (by omega) (by omega) (.int .i64 (K+1)))).mono (F':= []++fi) (fun x hx=>f_ _ hx)).touch hbb hb1 (fun x hx=>e_ _ hx) bn0;have hA1:=(((hA0.set (j:=0) (by simp) (.int .i64 (K))).set (j:=1) (by simp) (.int .i64 (K+1)))).touch (c_ hbb hbW.size) hb1 bn0;have hbb1:b<w1.heap.size:=c_ hbb hI1.size;have hJ0_1:Inr b (o+i*3) (o+i*3+3) [] w1 w1:=Inr.refl _ _ _ _ _;have z1:∀off,w1.frozen? ⟨b,off,none⟩=false:=fun off=>(hI1.froz b off hbb).trans (hFr.2 b hbf |>.2 off)
   clear hbW hb1 z0 hA0 hI0 q0 q1 q2
   go_wp2_with fail
   have hIe:=hI1;have hAe:=hA1;have hSe0:=hS0.inr hJ0_1 bn0 (fun x hx=>dL);have hIf:=hIe.mono (F':=fi) (fun x hx=>by simpa using hx)
   go_roundw
   case rel=>
    refine⟨i+1,K+1+1+(D.cnts (l[i].reads.map GRead.toD):Int),by omega,by go_num,rfl, ?_, ?_,hT.trans (hIf.nR hbf hfi)⟩
    ·rw[hcn'.out];have:=hK'.out;push_cast;omega
    ·rw[← jL _ k hi',b_];exact hback _ _ _ (by rw[D.yj];exact GTape.sz_eq _) (GTape.qy (by have:=hK'.out;push_cast;omega) (by have:=hK'.out;push_cast;omega) (by have:=hK'.out;push_cast;omega) hSe0) hAe hIf
   case measure=>(simp[intOf]<;>omega)
  ·have hf:=d_ (show i=l.length by omega);have hK':=d_ hK;clear hK
   go_wp2_with fail
   go_ret
   have e1:=hf.out;have e2:=hK'.out;rw[g_ (by rw[a_];omega)]at e2;rw[gU _ _ (by rw[a_];omega)]at hSi;exact⟨iZ e2,hSi,hT⟩
theorem qj(l:List GTape):bC Try.prog 13 (l.map GTape.toD):=CG l (fun y _=>BA _)
theorem Fp(l:List Int):bD Try.prog 75 (l.map li):=by
 intro w fp v k hS hk0 hk1;obtain⟨A,c,rfl,hl,hc⟩:=hS.form;rw[D.aY,a_]at hl hS⊢;have hm:l.length≤9223372036854775807:=by unfold maxLen at hc;omega
 clear hl hc
 go_enter Try.func75,Try.ntmps75
 go_wp2_with fail
 go_loopw [1,5] (fun kv iv wr=>∃(i:Nat) (K:Int),i≤l.length∧iv= .int .i64 i∧kv= .int .i64 K∧K=k+D.cnts ((l.map li).take i)∧Below w.heap.size w wr) (fun _ iv _=>l.length - (intOf iv).toNat)
 case atStart=>exact⟨0,k,by omega,rfl,rfl,by simp[D.fG],l_ _ _⟩
 case round=>
  obtain⟨i,K,hi,rfl,rfl,hK,hb⟩:=hrel;by_cases hlt:i<l.length
  ·have hi':i<(l.map li).length:=by rw[a_];exact hlt
   have hcn:=D.fP (l.map li) hi';have hle:=D.dB (l.map li) (i+1);have hc1:((l.map li)[i]).cnt=1:=by rw[b_];rfl
   rw[hc1]at hcn;have hk2:0≤K:=by omega
   have hk3:K+1≤4611686018427387904:=by omega
   have hK':=d_ hK;have hcn':=d_ hcn;obtain⟨b,o,fi,ci,rfl,hbb,hbf,hri,hfi,hat⟩:=hS.elem (s:=1) (fun d hd=>ji Ah k (l.map li).length d (by rw[gU _ _ (m_ _)];exact hd)) (pJ (l.map li) k hi');rw[b_]at hri;clear hK hcn hle;obtain⟨rfl,rfl⟩:=hri;simp only[q_]at hat;have q0:=hat.head;have q0:wr.cell? ⟨b,o+i,none⟩=some (.int .i64 K):=by
    have q1:w.cell? ⟨b,o+i,none⟩=some (.int .i64 (k+(D.cnts ((l.map li).take i):Int))):=hat.head;rw[hb.cell (p:=⟨b,o+i,none⟩) hbb,hK'.out];exact q1
   clear hat
   go_wp2_with fail
   go_roundw
   case rel=>exact⟨i+1,K+1,by omega,by go_num,rfl,by rw[hcn'.out];have:=hK'.out;push_cast;omega,hb⟩
   case measure=>(simp[intOf]<;>omega)
  ·have hf:=d_ (show i=l.length by omega);have hK':=d_ hK;clear hK
   go_wp2_with fail
   go_ret
   have e1:=hf.out;have e2:=hK'.out;rw[g_ (by rw[a_];omega)]at e2;exact⟨iZ e2,hb⟩
theorem NS(l:List Int):bD Try.prog 75 (l.map li):=Fp l
theorem zh(l:List ByteArray):bD Try.prog 48 (l.map ls):=by
 intro w fp v k hS hk0 hk1;obtain⟨A,c,rfl,hl,hc⟩:=hS.form;rw[D.aY,a_]at hl hS⊢;have hm:l.length≤9223372036854775807:=by unfold maxLen at hc;omega
 clear hl hc
 go_enter Try.func48,Try.ntmps48
 go_wp2_with fail
 go_loopw [1,5] (fun kv iv wr=>∃(i:Nat) (K:Int),i≤l.length∧iv= .int .i64 i∧kv= .int .i64 K∧K=k+D.cnts ((l.map ls).take i)∧Below w.heap.size w wr) (fun _ iv _=>l.length - (intOf iv).toNat)
 case atStart=>exact⟨0,k,by omega,rfl,rfl,by simp[D.fG],l_ _ _⟩
 case round=>
  obtain⟨i,K,hi,rfl,rfl,hK,hb⟩:=hrel;by_cases hlt:i<l.length
  ·have hi':i<(l.map ls).length:=by rw[a_];exact hlt
   have hcn:=D.fP (l.map ls) hi';have hle:=D.dB (l.map ls) (i+1);have hc1:((l.map ls)[i]).cnt=1:=by rw[b_];rfl
   rw[hc1]at hcn;have hk2:0≤K:=by omega
   have hk3:K+1≤4611686018427387904:=by omega
   have hK':=d_ hK;have hcn':=d_ hcn;obtain⟨b,o,fi,ci,rfl,hbb,hbf,hri,hfi,hat⟩:=hS.elem (s:=1) (fun d hd=>ji wX k (l.map ls).length d (by rw[gU _ _ (m_ _)];exact hd)) (pJ (l.map ls) k hi');rw[b_]at hri;clear hK hcn hle;obtain⟨rfl,rfl⟩:=hri;simp only[q_]at hat;have q0:=hat.head;have q0:wr.cell? ⟨b,o+i,none⟩=some (.string (iY K)):=by
    have q1:w.cell? ⟨b,o+i,none⟩=some (.string (iY (k+(D.cnts ((l.map ls).take i):Int)))):=hat.head;rw[hb.cell (p:=⟨b,o+i,none⟩) hbb,hK'.out];exact q1
   clear hat
   go_wp2_with fail
   have hbp:b<wr.heap.size:=c_ hbb hb.size
   go_region_held3 (fun w'=>w'.cell? ⟨b,o+i,none⟩=some (.string (iY (K)))) (go_keep)
    ((go_at_call 44;refine(gX _ _ (by omega)).mono ?_;rintro e w1 ⟨rfl,hb1⟩;have L1:Below wr.heap.size wr w1:=(l_ _ _).drew.trans hb1;have hc1:∀off,w1.cell? ⟨b,off,none⟩=wr.cell? ⟨b,off,none⟩:=fun off=>L1.cell (p:=⟨b,off,none⟩) hbp))
   have G1:Below w.heap.size w w1:=hb.trans (L1.mono hb.size);clear hb1 L1 hc1 hbp
   go_wp2_with fail
   go_roundw
   case rel=>exact⟨i+1,K+1,by omega,by go_num,rfl,by rw[hcn'.out];have:=hK'.out;push_cast;omega,G1⟩
   case measure=>(simp[intOf]<;>omega)
  ·have hf:=d_ (show i=l.length by omega);have hK':=d_ hK;clear hK
   go_wp2_with fail
   go_ret
   have e1:=hf.out;have e2:=hK'.out;rw[g_ (by rw[a_];omega)]at e2;exact⟨iZ e2,hb⟩
theorem mX(l:List ByteArray):bD Try.prog 48 (l.map ls):=zh l
theorem zo(l:List GOrigin):bD Try.prog 76 (l.map GOrigin.toD):=by
 intro w fp v k hS hk0 hk1;obtain⟨A,c,rfl,hl,hc⟩:=hS.form;rw[D.aY,a_]at hl hS⊢;have hm:l.length≤9223372036854775807:=by unfold maxLen at hc;omega
 clear hl hc
 go_enter Try.func76,Try.ntmps76
 go_wp2_with fail
 go_loopw [1,5] (fun kv iv wr=>∃(i:Nat) (K:Int),i≤l.length∧iv= .int .i64 i∧kv= .int .i64 K∧K=k+D.cnts ((l.map GOrigin.toD).take i)∧Below w.heap.size w wr) (fun _ iv _=>l.length - (intOf iv).toNat)
 case atStart=>exact⟨0,k,by omega,rfl,rfl,by simp[D.fG],l_ _ _⟩
 case round=>
  obtain⟨i,K,hi,rfl,rfl,hK,hb⟩:=hrel;by_cases hlt:i<l.length
  ·have hi':i<(l.map GOrigin.toD).length:=by rw[a_];exact hlt
   have hcn:=D.fP (l.map GOrigin.toD) hi';have hle:=D.dB (l.map GOrigin.toD) (i+1);rw[b_,GOrigin.jG]at hcn;have hk2:0≤K:=by omega
   have hk3:K+2≤4611686018427387904:=by omega
   have hK':=d_ hK;have hcn':=d_ hcn;obtain⟨b,o,fi,ci,rfl,hbb,hbf,hri,hfi,hat⟩:=hS.elem (s:=2) (fun d hd=>ji GOrigin.szs k (l.map GOrigin.toD).length d (by rw[gU _ _ (m_ _)];exact hd)) (pJ (l.map GOrigin.toD) k hi');rw[b_]at hri;clear hK hcn hle;obtain⟨a0,a1,e0,e1,rfl,rfl⟩:=GOrigin.nG hri;have d0:K=a0:=by have:=hK'.out;omega
   have d1:a1=K+1:=by have:=hK'.out;push_cast at e1;omega
   clear e0 e1;subst d0 d1;clear hri;have q0:wr.cell? ⟨b,o+i*2,none⟩=some (.int .i64 (K)):=(hb.cell (p:=⟨b,o+i*2,none⟩) hbb).trans (hat.head);have q1:wr.cell? ⟨b,o+i*2+1,none⟩=some (.int .i64 (K+1)):=(hb.cell (p:=⟨b,o+i*2+1,none⟩) hbb).trans (hat.nth 1 rfl)
   go_wp2_with fail
   go_roundw
   case rel=>exact⟨i+1,K+1+1,by omega,by go_num,rfl,by rw[hcn'.out];have:=hK'.out;push_cast;omega,hb⟩
   case measure=>(simp[intOf]<;>omega)
  ·have hf:=d_ (show i=l.length by omega);have hK':=d_ hK;clear hK
   go_wp2_with fail
   go_ret
   have e1:=hf.out;have e2:=hK'.out;rw[g_ (by rw[a_];omega)]at e2;exact⟨iZ e2,hb⟩
theorem Fg(l:List GOrigin):bD Try.prog 76 (l.map GOrigin.toD):=zo l
theorem E8(l:List GRow)(hM0:∀x∈l,bD Try.prog 75 (x.cells.map li))(hM1:∀x∈l,bD Try.prog 76 (x.src.map GOrigin.toD)):bD Try.prog 49 (l.map GRow.toD):=by
 intro w fp v k hS hk0 hk1;obtain⟨A,c,rfl,hl,hc⟩:=hS.form;rw[D.aY,a_]at hl hS⊢;have hm:l.length≤9223372036854775807:=by unfold maxLen at hc;omega
 clear hl hc
 go_enter Try.func49,Try.ntmps49
 go_wp2_with fail
 go_loopw [1,5] (fun kv iv wr=>∃(i:Nat) (K:Int),i≤l.length∧iv= .int .i64 i∧kv= .int .i64 K∧K=k+D.cnts ((l.map GRow.toD).take i)∧Below w.heap.size w wr) (fun _ iv _=>l.length - (intOf iv).toNat)
 case atStart=>exact⟨0,k,by omega,rfl,rfl,by simp[D.fG],l_ _ _⟩
 case round=>
  obtain⟨i,K,hi,rfl,rfl,hK,hb⟩:=hrel;by_cases hlt:i<l.length
  ·have hi':i<(l.map GRow.toD).length:=by rw[a_];exact hlt
   have hcn:=D.fP (l.map GRow.toD) hi';have hle:=D.dB (l.map GRow.toD) (i+1);rw[b_,GRow.jG]at hcn;have hk2:0≤K:=by omega
   have hk3:K+0+(D.cnts (l[i].cells.map li):Int)+(D.cnts (l[i].src.map GOrigin.toD):Int)≤4611686018427387904:=by omega
   have hK':=d_ hK;have hcn':=d_ hcn;obtain⟨b,o,fi,ci,rfl,hbb,hbf,hri,hfi,hat⟩:=hS.elem (s:=2) (fun d hd=>ji GRow.szs k (l.map GRow.toD).length d (by rw[gU _ _ (m_ _)];exact hd)) (pJ (l.map GRow.toD) k hi');rw[b_]at hri;clear hK hcn hle;obtain⟨a0,a1,v0,v1,g0,g1,e0,e1,rfl,rfl,hV0,hV1⟩:=GRow.nG hri;have d0:K=a0:=by have:=hK'.out;omega
   have d1:a1=K+(D.cnts (l[i].cells.map li):Int):=by have:=hK'.out;push_cast at e1;omega
   clear e0 e1;subst d0 d1;obtain⟨A0,c0,rfl,hqa,hqb⟩:=hV0.form;simp only[D.aY,a_]at hqa hV0 hat hri;clear hqa hqb;obtain⟨A1,c1,rfl,hqa,hqb⟩:=hV1.form;simp only[D.aY,a_]at hqa hV1 hat hri;clear hqa hqb;clear hri;have q0:wr.cell? ⟨b,o+i*2,none⟩=some (.slice A0 l[i].cells.length c0):=(hb.cell (p:=⟨b,o+i*2,none⟩) hbb).trans (hat.head)
   go_wp2_with fail
   refine(hM0 _ (i_ hlt) _ _ _ _ (hV0.below hb) (by omega) (by omega)).mono ?_;rintro e w1 ⟨rfl,hb1⟩;have G1:Below w.heap.size w w1:=hb.trans (hb1.mono hb.size);clear hb1 q0;have q1:w1.cell? ⟨b,o+i*2+1,none⟩=some (.slice A1 l[i].src.length c1):=(G1.cell (p:=⟨b,o+i*2+1,none⟩) hbb).trans (hat.nth 1 rfl)
   go_wp2_with fail
   refine(hM1 _ (i_ hlt) _ _ _ _ (hV1.below G1) (by omega) (by omega)).mono ?_;rintro e w2 ⟨rfl,hb2⟩;have G2:Below w.heap.size w w2:=G1.trans (hb2.mono G1.size);clear hb2 q1
   go_wp2_with fail
   go_roundw
   case rel=>exact⟨i+1,K+(D.cnts (l[i].cells.map li):Int)+(D.cnts (l[i].src.map GOrigin.toD):Int),by omega,by go_num,rfl,by rw[hcn'.out];have:=hK'.out;push_cast;omega,G2⟩
   case measure=>(simp[intOf]<;>omega)
  ·have hf:=d_ (show i=l.length by omega);have hK':=d_ hK;clear hK
   go_wp2_with fail
   go_ret
   have e1:=hf.out;have e2:=hK'.out;rw[g_ (by rw[a_];omega)]at e2;exact⟨iZ e2,hb⟩
theorem rZ(l:List GRow):bD Try.prog 49 (l.map GRow.toD):=E8 l (fun y _=>NS _) (fun y _=>Fg _)
theorem ru(l:List GVal)(hM0:∀x∈l,bD Try.prog 47 (x.list.map GVal.toD))(hM1:∀x∈l,bD Try.prog 48 (x.cols.map ls))(hM2:∀x∈l,bD Try.prog 49 (x.rows.map GRow.toD)):bD Try.prog 47 (l.map GVal.toD):=by
 intro w fp v k hS hk0 hk1;obtain⟨A,c,rfl,hl,hc⟩:=hS.form;rw[D.aY,a_]at hl hS⊢;have hm:l.length≤9223372036854775807:=by unfold maxLen at hc;omega
 clear hl hc
 go_enter Try.func47,Try.ntmps47
 go_wp2_with fail
 go_loopw [1,5] (fun kv iv wr=>∃(i:Nat) (K:Int),i≤l.length∧iv= .int .i64 i∧kv= .int .i64 K∧K=k+D.cnts ((l.map GVal.toD).take i)∧Below w.heap.size w wr) (fun _ iv _=>l.length - (intOf iv).toNat)
 case atStart=>exact⟨0,k,by omega,rfl,rfl,by simp[D.fG],l_ _ _⟩
 case round=>
  obtain⟨i,K,hi,rfl,rfl,hK,hb⟩:=hrel;by_cases hlt:i<l.length
  ·have hi':i<(l.map GVal.toD).length:=by rw[a_];exact hlt
   have hcn:=D.fP (l.map GVal.toD) hi';have hle:=D.dB (l.map GVal.toD) (i+1);rw[b_,GVal.jG]at hcn;have hk2:0≤K:=by omega
   have hk3:K+4+(D.cnts (l[i].list.map GVal.toD):Int)+(D.cnts (l[i].cols.map ls):Int)+(D.cnts (l[i].rows.map GRow.toD):Int)≤4611686018427387904:=by omega
   have hK':=d_ hK;have hcn':=d_ hcn;obtain⟨b,o,fi,ci,rfl,hbb,hbf,hri,hfi,hat⟩:=hS.elem (s:=7) (fun d hd=>ji GVal.szs k (l.map GVal.toD).length d (by rw[gU _ _ (m_ _)];exact hd)) (pJ (l.map GVal.toD) k hi');rw[b_]at hri;clear hK hcn hle;obtain⟨a0,a1,a2,a3,a4,a5,a6,v0,v1,v2,g0,g1,g2,e0,e1,e2,e3,e4,e5,e6,rfl,rfl,hV0,hV1,hV2⟩:=GVal.nG hri;have d0:K=a0:=by have:=hK'.out;omega
   have d1:a1=K+1:=by have:=hK'.out;push_cast at e1;omega
   have d2:a2=K+1+1:=by have:=hK'.out;push_cast at e2;omega
   have d3:a3=K+1+1+1:=by have:=hK'.out;push_cast at e3;omega
   have d4:a4=K+1+1+1+1:=by have:=hK'.out;push_cast at e4;omega
   have d5:a5=K+1+1+1+1+(D.cnts (l[i].list.map GVal.toD):Int):=by have:=hK'.out;push_cast at e5;omega
   have d6:a6=K+1+1+1+1+(D.cnts (l[i].list.map GVal.toD):Int)+(D.cnts (l[i].cols.map ls):Int):=by have:=hK'.out;push_cast at e6;omega
   clear e0 e1 e2 e3 e4 e5 e6;subst d0 d1 d2 d3 d4 d5 d6;obtain⟨A0,c0,rfl,hqa,hqb⟩:=hV0.form;simp only[D.aY,a_]at hqa hV0 hat hri;clear hqa hqb;obtain⟨A1,c1,rfl,hqa,hqb⟩:=hV1.form;simp only[D.aY,a_]at hqa hV1 hat hri;clear hqa hqb;obtain⟨A2,c2,rfl,hqa,hqb⟩:=hV2.form;simp only[D.aY,a_]at hqa hV2 hat hri;clear hqa hqb;clear hri;have q0:wr.cell? ⟨b,o+i*7,none⟩=some (.int .i64 (K)):=(hb.cell (p:=⟨b,o+i*7,none⟩) hbb).trans (hat.head);have q1:wr.cell? ⟨b,o+i*7+1,none⟩=some (.int .i64 (K+1)):=(hb.cell (p:=⟨b,o+i*7+1,none⟩) hbb).trans (hat.nth 1 rfl);have q2:wr.cell? ⟨b,o+i*7+2,none⟩=some (.int .i64 (K+1+1)):=(hb.cell (p:=⟨b,o+i*7+2,none⟩) hbb).trans (hat.nth 2 rfl);have q3:wr.cell? ⟨b,o+i*7+3,none⟩=some (.string (iY (K+1+1+1))):=(hb.cell (p:=⟨b,o+i*7+3,none⟩) hbb).trans (hat.nth 3 rfl)
   go_wp2_with fail
   have hbp:b<wr.heap.size:=c_ hbb hb.size
   go_region_held3 (fun w'=>w'.cell? ⟨b,o+i*7+3,none⟩=some (.string (iY (K+1+1+1)))) (go_keep)
    ((go_at_call 44;refine(gX _ _ (by omega)).mono ?_;rintro e w1 ⟨rfl,hb1⟩;have L1:Below wr.heap.size wr w1:=(l_ _ _).drew.trans hb1;have hc1:∀off,w1.cell? ⟨b,off,none⟩=wr.cell? ⟨b,off,none⟩:=fun off=>L1.cell (p:=⟨b,off,none⟩) hbp))
   have G1:Below w.heap.size w w1:=hb.trans (L1.mono hb.size);clear hb1 L1 hc1 hbp q0 q1 q2 q3;have q4:w1.cell? ⟨b,o+i*7+4,none⟩=some (.slice A0 l[i].list.length c0):=(G1.cell (p:=⟨b,o+i*7+4,none⟩) hbb).trans (hat.nth 4 rfl)
   go_wp2_with fail
   refine(hM0 _ (i_ hlt) _ _ _ _ (hV0.below G1) (by omega) (by omega)).mono ?_;rintro e w2 ⟨rfl,hb2⟩;have G2:Below w.heap.size w w2:=G1.trans (hb2.mono G1.size);clear hb2 q4;have q5:w2.cell? ⟨b,o+i*7+5,none⟩=some (.slice A1 l[i].cols.length c1):=(G2.cell (p:=⟨b,o+i*7+5,none⟩) hbb).trans (hat.nth 5 rfl)
   go_wp2_with fail
   refine(hM1 _ (i_ hlt) _ _ _ _ (hV1.below G2) (by omega) (by omega)).mono ?_;rintro e w3 ⟨rfl,hb3⟩;have G3:Below w.heap.size w w3:=G2.trans (hb3.mono G2.size);clear hb3 q5;have q6:w3.cell? ⟨b,o+i*7+6,none⟩=some (.slice A2 l[i].rows.length c2):=(G3.cell (p:=⟨b,o+i*7+6,none⟩) hbb).trans (hat.nth 6 rfl)
   go_wp2_with fail
   refine(hM2 _ (i_ hlt) _ _ _ _ (hV2.below G3) (by omega) (by omega)).mono ?_;rintro e w4 ⟨rfl,hb4⟩;have G4:Below w.heap.size w w4:=G3.trans (hb4.mono G3.size);clear hb4 q6
   go_wp2_with fail
   go_roundw
   case rel=>exact⟨i+1,K+1+1+1+1+(D.cnts (l[i].list.map GVal.toD):Int)+(D.cnts (l[i].cols.map ls):Int)+(D.cnts (l[i].rows.map GRow.toD):Int),by omega,by go_num,rfl,by rw[hcn'.out];have:=hK'.out;push_cast;omega,G4⟩
   case measure=>(simp[intOf]<;>omega)
  ·have hf:=d_ (show i=l.length by omega);have hK':=d_ hK;clear hK
   go_wp2_with fail
   go_ret
   have e1:=hf.out;have e2:=hK'.out;rw[g_ (by rw[a_];omega)]at e2;exact⟨iZ e2,hb⟩
theorem GVal.GL :∀(n:Nat) (x:GVal),SizeOf.sizeOf x≤n→bD Try.prog 47 (x.list.map GVal.toD)
 |0,x,h=>by cases x;simp at h
 |n+1,x,h=>ru _ (fun y hy=>GVal.GL n y (by have:=GVal.lt_of_mem hy;omega)) (fun y _=>mX _) (fun y _=>rZ _)
theorem yL(l:List GVal):bD Try.prog 47 (l.map GVal.toD):=ru l (fun y _=>GVal.GL _ y (m_ _)) (fun y _=>mX _) (fun y _=>rZ _)
theorem CP(l:List GRead)(hM0:∀x∈l,bD Try.prog 47 (x.result.list.map GVal.toD))(hM1:∀x∈l,bD Try.prog 48 (x.result.cols.map ls))(hM2:∀x∈l,bD Try.prog 49 (x.result.rows.map GRow.toD)):bD Try.prog 15 (l.map GRead.toD):=by
 intro w fp v k hS hk0 hk1;obtain⟨A,c,rfl,hl,hc⟩:=hS.form;rw[D.aY,a_]at hl hS⊢;have hm:l.length≤9223372036854775807:=by unfold maxLen at hc;omega
 clear hl hc
 go_enter Try.func15,Try.ntmps15
 go_wp2_with fail
 go_loopw [1,5] (fun kv iv wr=>∃(i:Nat) (K:Int),i≤l.length∧iv= .int .i64 i∧kv= .int .i64 K∧K=k+D.cnts ((l.map GRead.toD).take i)∧Below w.heap.size w wr) (fun _ iv _=>l.length - (intOf iv).toNat)
 case atStart=>exact⟨0,k,by omega,rfl,rfl,by simp[D.fG],l_ _ _⟩
 case round=>
  obtain⟨i,K,hi,rfl,rfl,hK,hb⟩:=hrel;by_cases hlt:i<l.length
  ·have hi':i<(l.map GRead.toD).length:=by rw[a_];exact hlt
   have hcn:=D.fP (l.map GRead.toD) hi';have hle:=D.dB (l.map GRead.toD) (i+1);rw[b_,GRead.jG]at hcn;have hk2:0≤K:=by omega
   have hk3:K+8+(D.cnts (l[i].result.list.map GVal.toD):Int)+(D.cnts (l[i].result.cols.map ls):Int)+(D.cnts (l[i].result.rows.map GRow.toD):Int)≤4611686018427387904:=by omega
   have hK':=d_ hK;have hcn':=d_ hcn;obtain⟨b,o,fi,ci,rfl,hbb,hbf,hri,hfi,hat⟩:=hS.elem (s:=11) (fun d hd=>ji GRead.szs k (l.map GRead.toD).length d (by rw[gU _ _ (m_ _)];exact hd)) (pJ (l.map GRead.toD) k hi');rw[b_]at hri;clear hK hcn hle;obtain⟨a0,a1,a2,a3,a4,a5,a6,a7,a8,a9,a10,v0,v1,v2,g0,g1,g2,e0,e1,e2,e3,e4,e5,e6,e7,e8,e9,e10,rfl,rfl,hV0,hV1,hV2⟩:=GRead.nG hri;have d0:K=a0:=by have:=hK'.out;omega
   have d1:a1=K+1:=by have:=hK'.out;push_cast at e1;omega
   have d2:a2=K+1+1:=by have:=hK'.out;push_cast at e2;omega
   have d3:a3=K+1+1+1:=by have:=hK'.out;push_cast at e3;omega
   have d4:a4=K+1+1+1+1:=by have:=hK'.out;push_cast at e4;omega
   have d5:a5=K+1+1+1+1+1:=by have:=hK'.out;push_cast at e5;omega
   have d6:a6=K+1+1+1+1+1+1:=by have:=hK'.out;push_cast at e6;omega
   have d7:a7=K+1+1+1+1+1+1+1:=by have:=hK'.out;push_cast at e7;omega
   have d8:a8=K+1+1+1+1+1+1+1+1:=by have:=hK'.out;push_cast at e8;omega
   have d9:a9=K+1+1+1+1+1+1+1+1+(D.cnts (l[i].result.list.map GVal.toD):Int):=by have:=hK'.out;push_cast at e9;omega
   have d10:a10=K+1+1+1+1+1+1+1+1+(D.cnts (l[i].result.list.map GVal.toD):Int)+(D.cnts (l[i].result.cols.map ls):Int):=by have:=hK'.out;push_cast at e10;omega
   clear e0 e1 e2 e3 e4 e5 e6 e7 e8 e9 e10;subst d0 d1 d2 d3 d4 d5 d6 d7 d8 d9 d10;obtain⟨A0,c0,rfl,hqa,hqb⟩:=hV0.form;simp only[D.aY,a_]at hqa hV0 hat hri;clear hqa hqb;obtain⟨A1,c1,rfl,hqa,hqb⟩:=hV1.form;simp only[D.aY,a_]at hqa hV1 hat hri;clear hqa hqb;obtain⟨A2,c2,rfl,hqa,hqb⟩:=hV2.form;simp only[D.aY,a_]at hqa hV2 hat hri;clear hqa hqb;clear hri;have q0:wr.cell? ⟨b,o+i*11,none⟩=some (.int .i64 (K)):=(hb.cell (p:=⟨b,o+i*11,none⟩) hbb).trans (hat.head);have q1:wr.cell? ⟨b,o+i*11+1,none⟩=some (.int .i64 (K+1)):=(hb.cell (p:=⟨b,o+i*11+1,none⟩) hbb).trans (hat.nth 1 rfl);have q2:wr.cell? ⟨b,o+i*11+2,none⟩=some (.int .i64 (K+1+1)):=(hb.cell (p:=⟨b,o+i*11+2,none⟩) hbb).trans (hat.nth 2 rfl);have q3:wr.cell? ⟨b,o+i*11+3,none⟩=some (.string (iY (K+1+1+1))):=(hb.cell (p:=⟨b,o+i*11+3,none⟩) hbb).trans (hat.nth 3 rfl)
   go_wp2_with fail
   have hbp:b<wr.heap.size:=c_ hbb hb.size
   go_region_held3 (fun w'=>w'.cell? ⟨b,o+i*11+3,none⟩=some (.string (iY (K+1+1+1)))) (go_keep)
    ((go_at_call 44;refine(gX _ _ (by omega)).mono ?_;rintro e w1 ⟨rfl,hb1⟩;have L1:Below wr.heap.size wr w1:=(l_ _ _).drew.trans hb1;have hc1:∀off,w1.cell? ⟨b,off,none⟩=wr.cell? ⟨b,off,none⟩:=fun off=>L1.cell (p:=⟨b,off,none⟩) hbp))
   have G1:Below w.heap.size w w1:=hb.trans (L1.mono hb.size);clear hb1 L1 hc1 hbp q0 q1 q2 q3;have q4:w1.cell? ⟨b,o+i*11+4,none⟩=some (.int .i64 (K+1+1+1+1)):=(G1.cell (p:=⟨b,o+i*11+4,none⟩) hbb).trans (hat.nth 4 rfl);have q5:w1.cell? ⟨b,o+i*11+5,none⟩=some (.int .i64 (K+1+1+1+1+1)):=(G1.cell (p:=⟨b,o+i*11+5,none⟩) hbb).trans (hat.nth 5 rfl);have q6:w1.cell? ⟨b,o+i*11+6,none⟩=some (.int .i64 (K+1+1+1+1+1+1)):=(G1.cell (p:=⟨b,o+i*11+6,none⟩) hbb).trans (hat.nth 6 rfl);have q7:w1.cell? ⟨b,o+i*11+7,none⟩=some (.string (iY (K+1+1+1+1+1+1+1))):=(G1.cell (p:=⟨b,o+i*11+7,none⟩) hbb).trans (hat.nth 7 rfl)
   go_wp2_with fail
   have hbp:b<w1.heap.size:=c_ hbb G1.size
   go_region_held3 (fun w'=>w'.cell? ⟨b,o+i*11+7,none⟩=some (.string (iY (K+1+1+1+1+1+1+1)))) (go_keep)
    ((go_at_call 44;refine(gX _ _ (by omega)).mono ?_;rintro e w2 ⟨rfl,hb2⟩;have L2:Below w1.heap.size w1 w2:=(l_ _ _).drew.trans hb2;have hc2:∀off,w2.cell? ⟨b,off,none⟩=w1.cell? ⟨b,off,none⟩:=fun off=>L2.cell (p:=⟨b,off,none⟩) hbp))
   have G2:Below w.heap.size w w2:=G1.trans (L2.mono G1.size);clear hb2 L2 hc2 hbp q4 q5 q6 q7;have q8:w2.cell? ⟨b,o+i*11+8,none⟩=some (.slice A0 l[i].result.list.length c0):=(G2.cell (p:=⟨b,o+i*11+8,none⟩) hbb).trans (hat.nth 8 rfl)
   go_wp2_with fail
   refine(hM0 _ (i_ hlt) _ _ _ _ (hV0.below G2) (by omega) (by omega)).mono ?_;rintro e w3 ⟨rfl,hb3⟩;have G3:Below w.heap.size w w3:=G2.trans (hb3.mono G2.size);clear hb3 q8;have q9:w3.cell? ⟨b,o+i*11+9,none⟩=some (.slice A1 l[i].result.cols.length c1):=(G3.cell (p:=⟨b,o+i*11+9,none⟩) hbb).trans (hat.nth 9 rfl)
   go_wp2_with fail
   refine(hM1 _ (i_ hlt) _ _ _ _ (hV1.below G3) (by omega) (by omega)).mono ?_;rintro e w4 ⟨rfl,hb4⟩;have G4:Below w.heap.size w w4:=G3.trans (hb4.mono G3.size);clear hb4 q9;have q10:w4.cell? ⟨b,o+i*11+10,none⟩=some (.slice A2 l[i].result.rows.length c2):=(G4.cell (p:=⟨b,o+i*11+10,none⟩) hbb).trans (hat.nth 10 rfl)
   go_wp2_with fail
   refine(hM2 _ (i_ hlt) _ _ _ _ (hV2.below G4) (by omega) (by omega)).mono ?_;rintro e w5 ⟨rfl,hb5⟩;have G5:Below w.heap.size w w5:=G4.trans (hb5.mono G4.size);clear hb5 q10
   go_wp2_with fail
   go_roundw
   case rel=>exact⟨i+1,K+1+1+1+1+1+1+1+1+(D.cnts (l[i].result.list.map GVal.toD):Int)+(D.cnts (l[i].result.cols.map ls):Int)+(D.cnts (l[i].result.rows.map GRow.toD):Int),by omega,by go_num,rfl,by rw[hcn'.out];have:=hK'.out;push_cast;omega,G5⟩
   case measure=>(simp[intOf]<;>omega)
  ·have hf:=d_ (show i=l.length by omega);have hK':=d_ hK;clear hK
   go_wp2_with fail
   go_ret
   have e1:=hf.out;have e2:=hK'.out;rw[g_ (by rw[a_];omega)]at e2;exact⟨iZ e2,hb⟩
theorem JJ(l:List GRead):bD Try.prog 15 (l.map GRead.toD):=CP l (fun y _=>yL _) (fun y _=>mX _) (fun y _=>rZ _)
theorem CJ(l:List GTape)(hM0:∀x∈l,bD Try.prog 15 (x.reads.map GRead.toD)):bD Try.prog 33 (l.map GTape.toD):=by
 intro w fp v k hS hk0 hk1;obtain⟨A,c,rfl,hl,hc⟩:=hS.form;rw[D.aY,a_]at hl hS⊢;have hm:l.length≤9223372036854775807:=by unfold maxLen at hc;omega
 clear hl hc
 go_enter Try.func33,Try.ntmps33
 go_wp2_with fail
 go_loopw [1,5] (fun kv iv wr=>∃(i:Nat) (K:Int),i≤l.length∧iv= .int .i64 i∧kv= .int .i64 K∧K=k+D.cnts ((l.map GTape.toD).take i)∧Below w.heap.size w wr) (fun _ iv _=>l.length - (intOf iv).toNat)
 case atStart=>exact⟨0,k,by omega,rfl,rfl,by simp[D.fG],l_ _ _⟩
 case round=>
  obtain⟨i,K,hi,rfl,rfl,hK,hb⟩:=hrel;by_cases hlt:i<l.length
  ·have hi':i<(l.map GTape.toD).length:=by rw[a_];exact hlt
   have hcn:=D.fP (l.map GTape.toD) hi';have hle:=D.dB (l.map GTape.toD) (i+1);rw[b_,GTape.jG]at hcn;have hk2:0≤K:=by omega
   have hk3:K+2+(D.cnts (l[i].reads.map GRead.toD):Int)≤4611686018427387904:=by omega
   have hK':=d_ hK;have hcn':=d_ hcn;obtain⟨b,o,fi,ci,rfl,hbb,hbf,hri,hfi,hat⟩:=hS.elem (s:=3) (fun d hd=>ji GTape.szs k (l.map GTape.toD).length d (by rw[gU _ _ (m_ _)];exact hd)) (pJ (l.map GTape.toD) k hi');rw[b_]at hri;clear hK hcn hle;obtain⟨a0,a1,a2,v0,g0,e0,e1,e2,rfl,rfl,hV0⟩:=GTape.nG hri;have d0:K=a0:=by have:=hK'.out;omega
   have d1:a1=K+1:=by have:=hK'.out;push_cast at e1;omega
   have d2:a2=K+1+1:=by have:=hK'.out;push_cast at e2;omega
   clear e0 e1 e2;subst d0 d1 d2;obtain⟨A0,c0,rfl,hqa,hqb⟩:=hV0.form;simp only[D.aY,a_]at hqa hV0 hat hri;clear hqa hqb;clear hri;have q0:wr.cell? ⟨b,o+i*3,none⟩=some (.int .i64 (K)):=(hb.cell (p:=⟨b,o+i*3,none⟩) hbb).trans (hat.head);have q1:wr.cell? ⟨b,o+i*3+1,none⟩=some (.int .i64 (K+1)):=(hb.cell (p:=⟨b,o+i*3+1,none⟩) hbb).trans (hat.nth 1 rfl);have q2:wr.cell? ⟨b,o+i*3+2,none⟩=some (.slice A0 l[i].reads.length c0):=(hb.cell (p:=⟨b,o+i*3+2,none⟩) hbb).trans (hat.nth 2 rfl)
   go_wp2_with fail
   refine(hM0 _ (i_ hlt) _ _ _ _ (hV0.below hb) (by omega) (by omega)).mono ?_;rintro e w1 ⟨rfl,hb1⟩;have G1:Below w.heap.size w w1:=hb.trans (hb1.mono hb.size);clear hb1 q0 q1 q2
   go_wp2_with fail
   go_roundw
   case rel=>exact⟨i+1,K+1+1+(D.cnts (l[i].reads.map GRead.toD):Int),by omega,by go_num,rfl,by rw[hcn'.out];have:=hK'.out;push_cast;omega,G1⟩
   case measure=>(simp[intOf]<;>omega)
  ·have hf:=d_ (show i=l.length by omega);have hK':=d_ hK;clear hK
   go_wp2_with fail
   go_ret
   have e1:=hf.out;have e2:=hK'.out;rw[g_ (by rw[a_];omega)]at e2;exact⟨iZ e2,hb⟩
theorem ql(l:List GTape):bD Try.prog 33 (l.map GTape.toD):=CJ l (fun y _=>JJ _)
theorem GVal.RP(x:GVal)(hM0:bD Try.prog 47 (x.list.map GVal.toD))(hM1:bD Try.prog 48 (x.cols.map ls))(hM2:bD Try.prog 49 (x.rows.map GRow.toD)):DU Try.prog 28 x.toD:=by
 intro w fp cs k hR hk0 hk1;rw[GVal.qg]at hk1;have hk2:k+(D.cnts (x.list.map GVal.toD):Int)+(D.cnts (x.cols.map ls):Int)+(D.cnts (x.rows.map GRow.toD):Int)≤4611686018427387904:=by push_cast at hk1;omega
 clear hk1;obtain⟨a4,a5,a6,v0,v1,v2,g0,g1,g2,e0,e1,e2,rfl,rfl,hV0,hV1,hV2⟩:=GVal.rY hR;have d0:k=a4:=by push_cast at e0;omega
 have d1:a5=k+(D.cnts (x.list.map GVal.toD):Int):=by push_cast at e1;omega
 have d2:a6=k+(D.cnts (x.list.map GVal.toD):Int)+(D.cnts (x.cols.map ls):Int):=by push_cast at e2;omega
 clear e0 e1 e2;subst d0 d1 d2;obtain⟨A0,c0,rfl,hqa,hqb⟩:=hV0.form;simp only[D.aY,a_]at hqa hV0 hR⊢;clear hqa hqb;obtain⟨A1,c1,rfl,hqa,hqb⟩:=hV1.form;simp only[D.aY,a_]at hqa hV1 hR⊢;clear hqa hqb;obtain⟨A2,c2,rfl,hqa,hqb⟩:=hV2.form;simp only[D.aY,a_]at hqa hV2 hR⊢;clear hqa hqb;clear hR
 go_enter Try.func28,Try.ntmps28
 go_wp2_with fail
 refine(hM0 _ _ _ _ (hV0.below ((l_ _ _).alloc (m_ _) _)) (by omega) (by first|omega|(push_cast;omega))).mono ?_;rintro e w1 ⟨rfl,hb1⟩;obtain⟨r1,hz1,G1⟩:=Um hb1;have kk1:=r1.cell;clear hb1
 go_wp2_with fail
 refine(hM1 _ _ _ _ (hV1.below G1) (by omega) (by first|omega|(push_cast;omega))).mono ?_;rintro e w2 ⟨rfl,hb2⟩;have r2:=r1.below hb2;have hz2:w.heap.size+1≤w2.heap.size:=s_ hz1 hb2.size;have G2:Below w.heap.size w w2:=G1.trans (hb2.mono (by omega));have kk2:=r2.cell;clear hb2 kk1
 go_wp2_with fail
 refine(hM2 _ _ _ _ (hV2.below G2) (by omega) (by first|omega|(push_cast;omega))).mono ?_;rintro e w3 ⟨rfl,hb3⟩;have r3:=r2.below hb3;have hz3:w.heap.size+1≤w3.heap.size:=s_ hz2 hb3.size;have G3:Below w.heap.size w w3:=G2.trans (hb3.mono (by omega));have kk3:=r3.cell;clear hb3 kk2
 go_wp2_with fail
 go_ret
 exact⟨iZ (by have hq:=GVal.qg x;omega),G3⟩
theorem GVal.held(x:GVal):DU Try.prog 28 x.toD:=GVal.RP x (yL _) (mX _) (rZ _)
end Go.Proofs.Ytagaefgglphkgaa
