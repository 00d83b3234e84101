/-
  Texts joined: Marks Box PartMark.
-/
import Derived.Test.YtagaefgglphkgaaGreatJA
import Derived.Test.YtagaefgglphkgaaGreatJE
set_option maxHeartbeats 4000000
set_option maxRecDepth 20000
set_option linter.unusedSimpArgs false
set_option linter.unusedVariables false
namespace Go.Proofs.YtagaefgglphkgaaGreat
open Go.RowKit
open List renaming length_map→a_,nodup_append→c_,mem_append_right→d_,getElem_map→e_,mem_append_left→f_,cons_append→h_,getElem_mem→i_,nil_append→j_,take_of_length_le→k_,append_nil→l_,mem_append→o_,not_mem_nil→p_
open Nat renaming lt_of_lt_of_le→b_,le_refl→m_,mul_one→q_,lt_irrefl→s_,le_trans→t_
open Lib renaming hid→g_
open Below renaming refl→n_
theorem bD{x:Nat}:x∉([]:List Nat):=by simp
theorem bn{x:Nat}{a b:List Nat}(h:x∉a)(k:x∉b):x∉a++b:=fun hm=>by
 rcases o_.1 hm with h'|h'
 ·exact h h'
 ·exact k h'
theorem KF(l:List Int):aX Tryz.prog 62 (l.map li):=by
 intro w fp v k hS hF hk0 hk1;obtain⟨A,c,rfl,hl,hc⟩:=hS.au;have hm:l.length≤9223372036854775807:=by unfold maxLen at hc;omega
 clear hl hc
 go_enter Tryz.func62,Tryz.ntmps62
 go_wp2_with fail
 go_loopw [1,5] (fun kv iv wr=>∃(i:Nat) (K:Int),i≤l.length∧iv= .int .i64 i∧kv= .int .i64 K∧K=k+D.cnts ((l.map li).take i)∧Sl wr (part (l.map li) k i) fp (.slice A l.length c)∧Touch fp w wr) (fun _ iv _=>l.length - (intOf iv).toNat)
 case atStart=>exact⟨0,k,by omega,rfl,rfl,by simp[D.fD],by rw[lU];exact hS,Touch.refl _ _⟩
 case round=>
  obtain⟨i,K,hi,rfl,rfl,hK,hSi,hT⟩:=hrel;by_cases hlt:i<l.length
  ·have hi':i<(l.map li).length:=by rw[a_];exact hlt
   have hcn:=D.fK (l.map li) hi';have hle:=D.dG (l.map li) (i+1);have hc1:((l.map li)[i]).cnt=1:=by rw[e_];rfl
   rw[hc1]at hcn;have hk2:0≤K:=by omega
   have hk3:K+1≤4611686018427387904:=by omega
   have hK':=g_ hK;have hcn':=g_ hcn;have hFr:=hF.touch (R.lt hS) hT;obtain⟨b,o,fi,ci,rfl,hbb,hbf,hri,hfi,hbn,hfn,hat,hback⟩:=hSi.focus hF.1 (jL uV k i) (nX (l.map li) k hi')
   rw[e_]at hri;clear hK hcn hle;obtain⟨rfl,rfl⟩:=hri;simp only[q_]at hat hback;have z0:∀off,wr.frozen? ⟨b,off,none⟩=false:=fun off=>(hFr.2 b hbf).2 off
   have hI0:Inr b (o+i) (o+i+1) [] wr wr:=Inr.refl _ _ _ _ _;have hA0:=hat;clear hat;have q0:=hA0.head
   go_wp2_with fail
   have hIe:=(hI0.setCell (off:=o+i) (by omega) (by omega) (.int .i64 (K)))
   have hAe:=(hA0.set (j:=0) (by simp) (.int .i64 (K)))
   have hIf:=hIe
   go_roundw
   case rel=>
    refine⟨i+1,K+1,by omega,by go_num,rfl, ?_, ?_,hT.trans (hIf.pX hbf hfi)⟩
    ·rw[hcn'.out];have:=hK'.out;push_cast;omega
    ·rw[← kL _ k hi',e_];exact hback _ (.leaf (.int .i64 (k+D.cnts ((l.map li).take i)))) _ rfl ⟨rfl,rfl⟩ (by have e:=hK'.out;subst e;exact hAe) hIf
   case measure=>(simp[intOf]<;>omega)
  ·have hf:=g_ (show i=l.length by omega);have hK':=g_ hK;clear hK
   go_wp2_with fail
   go_ret
   have e1:=hf.out;have e2:=hK'.out;rw[k_ (by rw[a_];omega)]at e2;rw[gQ _ _ (by rw[a_];omega)]at hSi;exact⟨gW e2,hSi,hT⟩
theorem Uh(l:List Int):aX Tryz.prog 62 (l.map li):=KF l
theorem CS(l:List ByteArray):aX Tryz.prog 36 (l.map ls):=by
 intro w fp v k hS hF hk0 hk1;obtain⟨A,c,rfl,hl,hc⟩:=hS.au;have hm:l.length≤9223372036854775807:=by unfold maxLen at hc;omega
 clear hl hc
 go_enter Tryz.func36,Tryz.ntmps36
 go_wp2_with fail
 go_loopw [1,5] (fun kv iv wr=>∃(i:Nat) (K:Int),i≤l.length∧iv= .int .i64 i∧kv= .int .i64 K∧K=k+D.cnts ((l.map ls).take i)∧Sl wr (part (l.map ls) k i) fp (.slice A l.length c)∧Touch fp w wr) (fun _ iv _=>l.length - (intOf iv).toNat)
 case atStart=>exact⟨0,k,by omega,rfl,rfl,by simp[D.fD],by rw[lU];exact hS,Touch.refl _ _⟩
 case round=>
  obtain⟨i,K,hi,rfl,rfl,hK,hSi,hT⟩:=hrel;by_cases hlt:i<l.length
  ·have hi':i<(l.map ls).length:=by rw[a_];exact hlt
   have hcn:=D.fK (l.map ls) hi';have hle:=D.dG (l.map ls) (i+1);have hc1:((l.map ls)[i]).cnt=1:=by rw[e_];rfl
   rw[hc1]at hcn;have hk2:0≤K:=by omega
   have hk3:K+1≤4611686018427387904:=by omega
   have hK':=g_ hK;have hcn':=g_ hcn;have hFr:=hF.touch (R.lt hS) hT;obtain⟨b,o,fi,ci,rfl,hbb,hbf,hri,hfi,hbn,hfn,hat,hback⟩:=hSi.focus hF.1 (jL gZ k i) (nX (l.map ls) k hi')
   rw[e_]at hri;clear hK hcn hle;obtain⟨rfl,rfl⟩:=hri;simp only[q_]at hat hback;have z0:∀off,wr.frozen? ⟨b,off,none⟩=false:=fun off=>(hFr.2 b hbf).2 off
   have hI0:Inr b (o+i) (o+i+1) [] wr wr:=Inr.refl _ _ _ _ _;have hA0:=hat;clear hat
   go_wp2_with fail
   refine(dV _ _ (by omega)).mono ?_;rintro e w1 ⟨rfl,hb1⟩;have hbW:=hI0;have hI1:=(hI0).below hbb hb1;have hA1:=(hA0).below (b_ hbb hbW.size) hb1;have z1:∀off,w1.frozen? ⟨b,off,none⟩=false:=fun off=>(hI1.froz b off hbb).trans (hFr.2 b hbf |>.2 off)
   clear hbW hb1 z0 hA0 hI0;have q0:=hA1.head
   go_wp2_with fail
   have hIe:=(hI1.setCell (off:=o+i) (by omega) (by omega) (.string (fF (K))))
   have hAe:=(hA1.set (j:=0) (by simp) (.string (fF (K))))
   have hIf:=hIe
   go_roundw
   case rel=>
    refine⟨i+1,K+1,by omega,by go_num,rfl, ?_, ?_,hT.trans (hIf.pX hbf hfi)⟩
    ·rw[hcn'.out];have:=hK'.out;push_cast;omega
    ·rw[← kL _ k hi',e_];exact hback _ (.leaf (.string (fF (k+D.cnts ((l.map ls).take i))))) _ rfl ⟨rfl,rfl⟩ (by have e:=hK'.out;subst e;exact hAe) hIf
   case measure=>(simp[intOf]<;>omega)
  ·have hf:=g_ (show i=l.length by omega);have hK':=g_ hK;clear hK
   go_wp2_with fail
   go_ret
   have e1:=hf.out;have e2:=hK'.out;rw[k_ (by rw[a_];omega)]at e2;rw[gQ _ _ (by rw[a_];omega)]at hSi;exact⟨gW e2,hSi,hT⟩
theorem mY(l:List ByteArray):aX Tryz.prog 36 (l.map ls):=CS l
theorem GOrigin.kU(x:GOrigin):x.toD.cnt=2:=by
 simp only[GOrigin.aj,D.cnt,D.cnts,li,ls]
 try omega
theorem GOrigin.uT{w:World}{x:GOrigin}{k:Int}{a0 a1:Int}(e0:a0=k)(e1:a1=k+((1:Nat):Int)):R w (x.toD.mk k) ([]) [.int .i64 a0,.int .i64 a1]:=by
 subst e0 e1;simp only[GOrigin.aj,D.mk,D.mks,D.cnt,D.cnts,rF,li,ls,dJ,dM,bT,gq,dL,h_,j_];exact⟨_,rfl,⟨_,rfl,⟨by simp,rfl⟩⟩⟩
theorem GOrigin.sU{w:World}{x:GOrigin}{k:Int}{fp:List Nat}{cs:List Value}(h:R w (x.toD.mk k) fp cs):∃(a0 a1:Int),a0=k∧a1=k+((1:Nat):Int)∧fp= []∧cs= [.int .i64 a0,.int .i64 a1]:=by
 simp only[GOrigin.aj,D.mk,D.mks,D.cnt,D.cnts,rF,li,ls,dJ,dM,bT,gq,dL,h_,j_]at h;obtain⟨_,rfl,⟨_,rfl,⟨rfl,rfl⟩⟩⟩:=h;exact⟨_,_,rfl,rfl,rfl,rfl⟩
theorem CY(l:List GOrigin):aX Tryz.prog 63 (l.map GOrigin.toD):=by
 intro w fp v k hS hF hk0 hk1;obtain⟨A,c,rfl,hl,hc⟩:=hS.au;have hm:l.length≤9223372036854775807:=by unfold maxLen at hc;omega
 clear hl hc
 go_enter Tryz.func63,Tryz.ntmps63
 go_wp2_with fail
 go_loopw [1,5] (fun kv iv wr=>∃(i:Nat) (K:Int),i≤l.length∧iv= .int .i64 i∧kv= .int .i64 K∧K=k+D.cnts ((l.map GOrigin.toD).take i)∧Sl wr (part (l.map GOrigin.toD) k i) fp (.slice A l.length c)∧Touch fp w wr) (fun _ iv _=>l.length - (intOf iv).toNat)
 case atStart=>exact⟨0,k,by omega,rfl,rfl,by simp[D.fD],by rw[lU];exact hS,Touch.refl _ _⟩
 case round=>
  obtain⟨i,K,hi,rfl,rfl,hK,hSi,hT⟩:=hrel;by_cases hlt:i<l.length
  ·have hi':i<(l.map GOrigin.toD).length:=by rw[a_];exact hlt
   have hcn:=D.fK (l.map GOrigin.toD) hi';have hle:=D.dG (l.map GOrigin.toD) (i+1);rw[e_,GOrigin.kU]at hcn;have hk2:0≤K:=by omega
   have hk3:K+2≤4611686018427387904:=by omega
   have hK':=g_ hK;have hcn':=g_ hcn;have hFr:=hF.touch (R.lt hS) hT;obtain⟨b,o,fi,ci,rfl,hbb,hbf,hri,hfi,hbn,hfn,hat,hback⟩:=hSi.focus hF.1 (jL GOrigin.szs k i) (nX (l.map GOrigin.toD) k hi')
   rw[e_]at hri;clear hK hcn hle;obtain⟨rfl,rfl⟩:=GOrigin.opened.1 hri;have z0:∀off,wr.frozen? ⟨b,off,none⟩=false:=fun off=>(hFr.2 b hbf).2 off
   clear hri;have hI0:Inr b (o+i*2) (o+i*2+2) [] wr wr:=Inr.refl _ _ _ _ _;have hA0:=hat;clear hat;have q0:=hA0.head;have q1:=hA0.nth 1 rfl
   go_wp2_with fail
   have hIe:=((hI0.setCell (off:=o+i*2) (by omega) (by omega) (.int .i64 (K))).setCell (off:=o+i*2+1) (by omega) (by omega) (.int .i64 (K+1)))
   have hAe:=((hA0.set (j:=0) (by simp) (.int .i64 (K))).set (j:=1) (by simp) (.int .i64 (K+1)))
   have hIf:=hIe
   go_roundw
   case rel=>
    refine⟨i+1,K+1+1,by omega,by go_num,rfl, ?_, ?_,hT.trans (hIf.pX hbf hfi)⟩
    ·rw[hcn'.out];have:=hK'.out;push_cast;omega
    ·rw[← kL _ k hi',e_];exact hback _ _ _ (by rw[D.BH];exact GOrigin.sz_eq _) (GOrigin.uT (by have:=hK'.out;push_cast;omega) (by have:=hK'.out;push_cast;omega)) hAe hIf
   case measure=>(simp[intOf]<;>omega)
  ·have hf:=g_ (show i=l.length by omega);have hK':=g_ hK;clear hK
   go_wp2_with fail
   go_ret
   have e1:=hf.out;have e2:=hK'.out;rw[k_ (by rw[a_];omega)]at e2;rw[gQ _ _ (by rw[a_];omega)]at hSi;exact⟨gW e2,hSi,hT⟩
theorem KD(l:List GOrigin):aX Tryz.prog 63 (l.map GOrigin.toD):=CY l
theorem GRow.kU(x:GRow):x.toD.cnt=0+D.cnts (x.cells.map li)+D.cnts (x.src.map GOrigin.toD):=by
 simp only[GRow.aj,D.cnt,D.cnts,li,ls]
 try omega
theorem GRow.uT{w:World}{x:GRow}{k:Int}{a0 a1:Int}{f0 f1:List Nat}{v0 v1:Value}(e0:a0=k)(e1:a1=k+((D.cnts (x.cells.map li):Nat):Int))(s0:Sl w (D.mks (x.cells.map li) a0) f0 v0)(s1:Sl w (D.mks (x.src.map GOrigin.toD) a1) f1 v1):R w (x.toD.mk k) (f0++(f1)) [v0,v1]:=by
 subst e0 e1;simp only[GRow.aj,D.mk,D.mks,D.cnt,D.cnts,rF,li,ls,dJ,dM,bT,gq,dL,h_,j_];exact⟨_,_,_,_,rfl,rfl,s0,⟨_,_,_,_,(l_ _).symm,rfl,s1,⟨rfl,rfl⟩⟩⟩
theorem GRow.sU{w:World}{x:GRow}{k:Int}{fp:List Nat}{cs:List Value}(h:R w (x.toD.mk k) fp cs):∃(a0 a1:Int) (v0 v1:Value) (f0 f1:List Nat),a0=k∧a1=k+((D.cnts (x.cells.map li):Nat):Int)∧fp=f0++(f1)∧cs= [v0,v1]∧Sl w (D.mks (x.cells.map li) a0) f0 v0∧Sl w (D.mks (x.src.map GOrigin.toD) a1) f1 v1:=by
 simp only[GRow.aj,D.mk,D.mks,D.cnt,D.cnts,rF,li,ls,dJ,dM,bT,gq,dL,h_,j_]at h;obtain⟨_,_,_,_,rfl,rfl,s0,⟨_,_,_,_,rfl,rfl,s1,⟨rfl,rfl⟩⟩⟩:=h;exact⟨_,_,_,_,_,_,rfl,rfl,by simp,rfl,s0,s1⟩
theorem GRow.FQ{w:World}{x:GRow}{k:Int}{a0 a1:Int}{f0 f1:List Nat}{v0 v1:Value}(e0:a0=k)(e1:a1=k+((D.cnts (x.cells.map li):Nat):Int))(s0:Sl w (D.mks (x.cells.map li) a0) f0 v0)(s1:Sl w (D.mks (x.src.map GOrigin.toD) a1) f1 v1):R w (x.toD.amk k) (f0++(f1)) [v0,v1]:=by
 subst e0 e1;simp only[GRow.aj,D.amk,D.CO,D.acnt,D.l7,li,ls,dJ,dM,bT,gq,dL,h_,j_];exact⟨_,_,_,_,rfl,rfl,s0,⟨_,_,_,_,(l_ _).symm,rfl,s1,⟨rfl,rfl⟩⟩⟩
theorem GRow.zC{w:World}{x:GRow}{k:Int}{fp:List Nat}{cs:List Value}(h:R w (x.toD.amk k) fp cs):∃(a0 a1:Int) (v0 v1:Value) (f0 f1:List Nat),a0=k∧a1=k+((D.cnts (x.cells.map li):Nat):Int)∧fp=f0++(f1)∧cs= [v0,v1]∧Sl w (D.mks (x.cells.map li) a0) f0 v0∧Sl w (D.mks (x.src.map GOrigin.toD) a1) f1 v1:=by
 simp only[GRow.aj,D.amk,D.CO,D.acnt,D.l7,li,ls,dJ,dM,bT,gq,dL,h_,j_]at h;obtain⟨_,_,_,_,rfl,rfl,s0,⟨_,_,_,_,rfl,rfl,s1,⟨rfl,rfl⟩⟩⟩:=h;exact⟨_,_,_,_,_,_,rfl,rfl,by simp,rfl,s0,s1⟩
theorem GRow.oQ(x:GRow):x.toD.acnt=D.cnts (x.cells.map li)+D.cnts (x.src.map GOrigin.toD):=by
 simp only[GRow.aj,D.acnt,D.l7,li,ls]
 try omega
theorem KA(l:List GRow)(hM0:∀x∈l,aX Tryz.prog 62 (x.cells.map li))(hM1:∀x∈l,aX Tryz.prog 63 (x.src.map GOrigin.toD)):aX Tryz.prog 37 (l.map GRow.toD):=by
 intro w fp v k hS hF hk0 hk1;obtain⟨A,c,rfl,hl,hc⟩:=hS.au;have hm:l.length≤9223372036854775807:=by unfold maxLen at hc;omega
 clear hl hc
 go_enter Tryz.func37,Tryz.ntmps37
 go_wp2_with fail
 go_loopw [1,5] (fun kv iv wr=>∃(i:Nat) (K:Int),i≤l.length∧iv= .int .i64 i∧kv= .int .i64 K∧K=k+D.cnts ((l.map GRow.toD).take i)∧Sl wr (part (l.map GRow.toD) k i) fp (.slice A l.length c)∧Touch fp w wr) (fun _ iv _=>l.length - (intOf iv).toNat)
 case atStart=>exact⟨0,k,by omega,rfl,rfl,by simp[D.fD],by rw[lU];exact hS,Touch.refl _ _⟩
 case round=>
  obtain⟨i,K,hi,rfl,rfl,hK,hSi,hT⟩:=hrel;by_cases hlt:i<l.length
  ·have hi':i<(l.map GRow.toD).length:=by rw[a_];exact hlt
   have hcn:=D.fK (l.map GRow.toD) hi';have hle:=D.dG (l.map GRow.toD) (i+1);rw[e_,GRow.kU]at hcn;have hk2:0≤K:=by omega
   have hk3:K+0+(D.cnts (l[i].cells.map li):Int)+(D.cnts (l[i].src.map GOrigin.toD):Int)≤4611686018427387904:=by omega
   have hK':=g_ hK;have hcn':=g_ hcn;have hFr:=hF.touch (R.lt hS) hT;obtain⟨b,o,fi,ci,rfl,hbb,hbf,hri,hfi,hbn,hfn,hat,hback⟩:=hSi.focus hF.1 (jL GRow.szs k i) (nX (l.map GRow.toD) k hi')
   rw[e_]at hri;clear hK hcn hle;obtain⟨v0,v1,g0,g1,rfl,rfl,hV0,hV1⟩:=GRow.opened.1 hri;obtain⟨A0,c0,rfl,hqa,hqb⟩:=hV0.au;clear hqa hqb;obtain⟨A1,c1,rfl,hqa,hqb⟩:=hV1.au;clear hqa hqb;have nN1:=(c_.1 hfn).2.1;have nd0:=(c_.1 hfn).1;have D0_1:∀x∈g1,x∉g0:=fun x hx hy=>(c_.1 hfn).2.2 x hy x (by simp[hx]) rfl
   have D1_0:∀x∈g0,x∉g1:=fun x hx hy=>D0_1 x hy hx
   have nd1:=nN1;have bn0:b∉g0:=fun hx=>hbn (by first|exact hx|simp[hx])
   have Fr0:aV wr 0 g0:=hFr.sub nd0 (fun x hx=>hfi x (by first|exact hx|simp[hx]));have bn1:b∉g1:=fun hx=>hbn (by first|exact hx|simp[hx])
   have Fr1:aV wr 0 g1:=hFr.sub nd1 (fun x hx=>hfi x (by first|exact hx|simp[hx]));have z0:∀off,wr.frozen? ⟨b,off,none⟩=false:=fun off=>(hFr.2 b hbf).2 off
   clear hri;have hI0:Inr b (o+i*2) (o+i*2+2) [] wr wr:=Inr.refl _ _ _ _ _;have hA0:=hat;clear hat;have q0:=hA0.head
   go_wp2_with fail
   have hbW:=hI0;refine(hM0 _ (i_ hlt) _ g0 _ _ (hV0.inr hbW bn0 (fun x hx=>bD)) (Fr0.inr (R.lt hV0) hbW) (by omega) (by omega)).mono ?_;rintro e w1 ⟨rfl,hS0,hb1⟩;have hI1:=((hI0).mono (F':= []++g0) (fun x hx=>f_ _ hx)).touch hbb hb1 (fun x hx=>d_ _ hx) bn0;have hA1:=(hA0).touch (b_ hbb hbW.size) hb1 bn0;have hbb1:b<w1.heap.size:=b_ hbb hI1.size;have hJ0_1:Inr b (o+i*2) (o+i*2+2) [] w1 w1:=Inr.refl _ _ _ _ _;have z1:∀off,w1.frozen? ⟨b,off,none⟩=false:=fun off=>(hI1.froz b off hbb).trans (hFr.2 b hbf |>.2 off)
   clear hbW hb1 z0 hA0 hI0 q0;have q1:=hA1.nth 1 rfl
   go_wp2_with fail
   have hbW:=hI1;refine(hM1 _ (i_ hlt) _ g1 _ _ (hV1.inr hbW bn1 (fun x hx=>bn (bD) (D0_1 x hx))) (Fr1.inr (R.lt hV1) hbW) (by omega) (by omega)).mono ?_;rintro e w2 ⟨rfl,hS1,hb2⟩;have hI2:=((hI1).mono (F':=([]++g0)++g1) (fun x hx=>f_ _ hx)).touch hbb hb2 (fun x hx=>d_ _ hx) bn1;have hJ0_2:=((hJ0_1).mono (F':= []++g1) (fun x hx=>f_ _ hx)).touch hbb1 hb2 (fun x hx=>d_ _ hx) bn1;have hA2:=(hA1).touch (b_ hbb hbW.size) hb2 bn1;have hbb2:b<w2.heap.size:=b_ hbb hI2.size;have hJ1_2:Inr b (o+i*2) (o+i*2+2) [] w2 w2:=Inr.refl _ _ _ _ _;have z2:∀off,w2.frozen? ⟨b,off,none⟩=false:=fun off=>(hI2.froz b off hbb).trans (hFr.2 b hbf |>.2 off)
   clear hbW hb2 z1 hA1 hI1 hJ0_1 q1
   go_wp2_with fail
   have hIe:=hI2;have hAe:=hA2;have hSe0:=hS0.inr hJ0_2 bn0 (fun x hx=>bn (bD) (D1_0 x hx));have hSe1:=hS1.inr hJ1_2 bn1 (fun x hx=>bD);have hIf:=hIe.mono (F':=g0++(g1)) (fun x hx=>by
    simp only[o_,p_,false_or]at hx;rcases hx with h|h<;>simp[h])
   go_roundw
   case rel=>
    refine⟨i+1,K+(D.cnts (l[i].cells.map li):Int)+(D.cnts (l[i].src.map GOrigin.toD):Int),by omega,by go_num,rfl, ?_, ?_,hT.trans (hIf.pX hbf hfi)⟩
    ·rw[hcn'.out];have:=hK'.out;push_cast;omega
    ·rw[← kL _ k hi',e_];exact hback _ _ _ (by rw[D.BH];exact GRow.sz_eq _) (GRow.uT (by have:=hK'.out;push_cast;omega) (by have:=hK'.out;push_cast;omega) hSe0 hSe1) hAe hIf
   case measure=>(simp[intOf]<;>omega)
  ·have hf:=g_ (show i=l.length by omega);have hK':=g_ hK;clear hK
   go_wp2_with fail
   go_ret
   have e1:=hf.out;have e2:=hK'.out;rw[k_ (by rw[a_];omega)]at e2;rw[gQ _ _ (by rw[a_];omega)]at hSi;exact⟨gW e2,hSi,hT⟩
theorem rX(l:List GRow):aX Tryz.prog 37 (l.map GRow.toD):=KA l (fun y _=>Uh _) (fun y _=>KD _)
theorem GVal.kU(x:GVal):x.toD.cnt=4+D.cnts (x.list.map GVal.toD)+D.cnts (x.cols.map ls)+D.cnts (x.rows.map GRow.toD):=by
 simp only[GVal.aj,D.cnt,D.cnts,li,ls]
 try omega
theorem GVal.uT{w:World}{x:GVal}{k:Int}{a0 a1 a2 a3 a4 a5 a6:Int}{f0 f1 f2:List Nat}{v0 v1 v2:Value}(e0:a0=k)(e1:a1=k+((1:Nat):Int))(e2:a2=k+((1:Nat):Int)+((1:Nat):Int))(e3:a3=k+((1:Nat):Int)+((1:Nat):Int)+((1:Nat):Int))(e4:a4=k+((1:Nat):Int)+((1:Nat):Int)+((1:Nat):Int)+((1:Nat):Int))(e5:a5=k+((1:Nat):Int)+((1:Nat):Int)+((1:Nat):Int)+((1:Nat):Int)+((D.cnts (x.list.map GVal.toD):Nat):Int))(e6:a6=k+((1:Nat):Int)+((1:Nat):Int)+((1:Nat):Int)+((1:Nat):Int)+((D.cnts (x.list.map GVal.toD):Nat):Int)+((D.cnts (x.cols.map ls):Nat):Int))(s0:Sl w (D.mks (x.list.map GVal.toD) a4) f0 v0)(s1:Sl w (D.mks (x.cols.map ls) a5) f1 v1)(s2:Sl w (D.mks (x.rows.map GRow.toD) a6) f2 v2):R w (x.toD.mk k) (f0++(f1++(f2))) [.int .i64 a0,.int .i64 a1,.int .i64 a2,.string (fF a3),v0,v1,v2]:=by
 subst e0 e1 e2 e3 e4 e5 e6;simp only[GVal.aj,D.mk,D.mks,D.cnt,D.cnts,rF,li,ls,dJ,dM,bT,gq,dL,h_,j_];exact⟨_,rfl,⟨_,rfl,⟨_,rfl,⟨_,rfl,⟨_,_,_,_,rfl,rfl,s0,⟨_,_,_,_,rfl,rfl,s1,⟨_,_,_,_,(l_ _).symm,rfl,s2,⟨rfl,rfl⟩⟩⟩⟩⟩⟩⟩⟩
theorem GVal.sU{w:World}{x:GVal}{k:Int}{fp:List Nat}{cs:List Value}(h:R w (x.toD.mk k) fp cs):∃(a0 a1 a2 a3 a4 a5 a6:Int) (v0 v1 v2:Value) (f0 f1 f2:List Nat),a0=k∧a1=k+((1:Nat):Int)∧a2=k+((1:Nat):Int)+((1:Nat):Int)∧a3=k+((1:Nat):Int)+((1:Nat):Int)+((1:Nat):Int)∧a4=k+((1:Nat):Int)+((1:Nat):Int)+((1:Nat):Int)+((1:Nat):Int)∧a5=k+((1:Nat):Int)+((1:Nat):Int)+((1:Nat):Int)+((1:Nat):Int)+((D.cnts (x.list.map GVal.toD):Nat):Int)∧a6=k+((1:Nat):Int)+((1:Nat):Int)+((1:Nat):Int)+((1:Nat):Int)+((D.cnts (x.list.map GVal.toD):Nat):Int)+((D.cnts (x.cols.map ls):Nat):Int)∧fp=f0++(f1++(f2))∧cs= [.int .i64 a0,.int .i64 a1,.int .i64 a2,.string (fF a3),v0,v1,v2]∧Sl w (D.mks (x.list.map GVal.toD) a4) f0 v0∧Sl w (D.mks (x.cols.map ls) a5) f1 v1∧Sl w (D.mks (x.rows.map GRow.toD) a6) f2 v2:=by
 simp only[GVal.aj,D.mk,D.mks,D.cnt,D.cnts,rF,li,ls,dJ,dM,bT,gq,dL,h_,j_]at h;obtain⟨_,rfl,⟨_,rfl,⟨_,rfl,⟨_,rfl,⟨_,_,_,_,rfl,rfl,s0,⟨_,_,_,_,rfl,rfl,s1,⟨_,_,_,_,rfl,rfl,s2,⟨rfl,rfl⟩⟩⟩⟩⟩⟩⟩⟩:=h;exact⟨_,_,_,_,_,_,_,_,_,_,_,_,_,rfl,rfl,rfl,rfl,rfl,rfl,rfl,by simp,rfl,s0,s1,s2⟩
theorem GVal.FQ{w:World}{x:GVal}{k:Int}{a4 a5 a6:Int}{f0 f1 f2:List Nat}{v0 v1 v2:Value}(e4:a4=k+((0:Nat):Int)+((0:Nat):Int)+((0:Nat):Int)+((0:Nat):Int))(e5:a5=k+((0:Nat):Int)+((0:Nat):Int)+((0:Nat):Int)+((0:Nat):Int)+((D.cnts (x.list.map GVal.toD):Nat):Int))(e6:a6=k+((0:Nat):Int)+((0:Nat):Int)+((0:Nat):Int)+((0:Nat):Int)+((D.cnts (x.list.map GVal.toD):Nat):Int)+((D.cnts (x.cols.map ls):Nat):Int))(s0:Sl w (D.mks (x.list.map GVal.toD) a4) f0 v0)(s1:Sl w (D.mks (x.cols.map ls) a5) f1 v1)(s2:Sl w (D.mks (x.rows.map GRow.toD) a6) f2 v2):R w (x.toD.amk k) (f0++(f1++(f2))) [.int .i64 x.kind,.int .i64 x.n,.int .i64 x.step,.string x.text,v0,v1,v2]:=by
 subst e4 e5 e6;simp only[GVal.aj,D.amk,D.CO,D.acnt,D.l7,li,ls,dJ,dM,bT,gq,dL,h_,j_];exact⟨_,rfl,⟨_,rfl,⟨_,rfl,⟨_,rfl,⟨_,_,_,_,rfl,rfl,s0,⟨_,_,_,_,rfl,rfl,s1,⟨_,_,_,_,(l_ _).symm,rfl,s2,⟨rfl,rfl⟩⟩⟩⟩⟩⟩⟩⟩
theorem GVal.zC{w:World}{x:GVal}{k:Int}{fp:List Nat}{cs:List Value}(h:R w (x.toD.amk k) fp cs):∃(a4 a5 a6:Int) (v0 v1 v2:Value) (f0 f1 f2:List Nat),a4=k+((0:Nat):Int)+((0:Nat):Int)+((0:Nat):Int)+((0:Nat):Int)∧a5=k+((0:Nat):Int)+((0:Nat):Int)+((0:Nat):Int)+((0:Nat):Int)+((D.cnts (x.list.map GVal.toD):Nat):Int)∧a6=k+((0:Nat):Int)+((0:Nat):Int)+((0:Nat):Int)+((0:Nat):Int)+((D.cnts (x.list.map GVal.toD):Nat):Int)+((D.cnts (x.cols.map ls):Nat):Int)∧fp=f0++(f1++(f2))∧cs= [.int .i64 x.kind,.int .i64 x.n,.int .i64 x.step,.string x.text,v0,v1,v2]∧Sl w (D.mks (x.list.map GVal.toD) a4) f0 v0∧Sl w (D.mks (x.cols.map ls) a5) f1 v1∧Sl w (D.mks (x.rows.map GRow.toD) a6) f2 v2:=by
 simp only[GVal.aj,D.amk,D.CO,D.acnt,D.l7,li,ls,dJ,dM,bT,gq,dL,h_,j_]at h;obtain⟨_,rfl,⟨_,rfl,⟨_,rfl,⟨_,rfl,⟨_,_,_,_,rfl,rfl,s0,⟨_,_,_,_,rfl,rfl,s1,⟨_,_,_,_,rfl,rfl,s2,⟨rfl,rfl⟩⟩⟩⟩⟩⟩⟩⟩:=h;exact⟨_,_,_,_,_,_,_,_,_,rfl,rfl,rfl,by simp,rfl,s0,s1,s2⟩
theorem GVal.oQ(x:GVal):x.toD.acnt=D.cnts (x.list.map GVal.toD)+D.cnts (x.cols.map ls)+D.cnts (x.rows.map GRow.toD):=by
 simp only[GVal.aj,D.acnt,D.l7,li,ls]
 try omega
theorem vN(l:List GVal)(hM0:∀x∈l,aX Tryz.prog 15 (x.list.map GVal.toD))(hM1:∀x∈l,aX Tryz.prog 36 (x.cols.map ls))(hM2:∀x∈l,aX Tryz.prog 37 (x.rows.map GRow.toD)):aX Tryz.prog 15 (l.map GVal.toD):=by
 intro w fp v k hS hF hk0 hk1;obtain⟨A,c,rfl,hl,hc⟩:=hS.au;have hm:l.length≤9223372036854775807:=by unfold maxLen at hc;omega
 clear hl hc
 go_enter Tryz.func15,Tryz.ntmps15
 go_wp2_with fail
 go_loopw [1,5] (fun kv iv wr=>∃(i:Nat) (K:Int),i≤l.length∧iv= .int .i64 i∧kv= .int .i64 K∧K=k+D.cnts ((l.map GVal.toD).take i)∧Sl wr (part (l.map GVal.toD) k i) fp (.slice A l.length c)∧Touch fp w wr) (fun _ iv _=>l.length - (intOf iv).toNat)
 case atStart=>exact⟨0,k,by omega,rfl,rfl,by simp[D.fD],by rw[lU];exact hS,Touch.refl _ _⟩
 case round=>
  obtain⟨i,K,hi,rfl,rfl,hK,hSi,hT⟩:=hrel;by_cases hlt:i<l.length
  ·have hi':i<(l.map GVal.toD).length:=by rw[a_];exact hlt
   have hcn:=D.fK (l.map GVal.toD) hi';have hle:=D.dG (l.map GVal.toD) (i+1);rw[e_,GVal.kU]at hcn;have hk2:0≤K:=by omega
   have hk3:K+4+(D.cnts (l[i].list.map GVal.toD):Int)+(D.cnts (l[i].cols.map ls):Int)+(D.cnts (l[i].rows.map GRow.toD):Int)≤4611686018427387904:=by omega
   have hK':=g_ hK;have hcn':=g_ hcn;have hFr:=hF.touch (R.lt hS) hT;obtain⟨b,o,fi,ci,rfl,hbb,hbf,hri,hfi,hbn,hfn,hat,hback⟩:=hSi.focus hF.1 (jL GVal.szs k i) (nX (l.map GVal.toD) k hi')
   rw[e_]at hri;clear hK hcn hle;obtain⟨v0,v1,v2,g0,g1,g2,rfl,rfl,hV0,hV1,hV2⟩:=GVal.opened.1 hri;obtain⟨A0,c0,rfl,hqa,hqb⟩:=hV0.au;clear hqa hqb;obtain⟨A1,c1,rfl,hqa,hqb⟩:=hV1.au;clear hqa hqb;obtain⟨A2,c2,rfl,hqa,hqb⟩:=hV2.au;clear hqa hqb;have nN1:=(c_.1 hfn).2.1;have nd0:=(c_.1 hfn).1;have D0_1:∀x∈g1,x∉g0:=fun x hx hy=>(c_.1 hfn).2.2 x hy x (by simp[hx]) rfl
   have D1_0:∀x∈g0,x∉g1:=fun x hx hy=>D0_1 x hy hx
   have D0_2:∀x∈g2,x∉g0:=fun x hx hy=>(c_.1 hfn).2.2 x hy x (by simp[hx]) rfl
   have D2_0:∀x∈g0,x∉g2:=fun x hx hy=>D0_2 x hy hx
   have nN2:=(c_.1 nN1).2.1;have nd1:=(c_.1 nN1).1;have D1_2:∀x∈g2,x∉g1:=fun x hx hy=>(c_.1 nN1).2.2 x hy x (by simp[hx]) rfl
   have D2_1:∀x∈g1,x∉g2:=fun x hx hy=>D1_2 x hy hx
   have nd2:=nN2;have bn0:b∉g0:=fun hx=>hbn (by first|exact hx|simp[hx])
   have Fr0:aV wr 0 g0:=hFr.sub nd0 (fun x hx=>hfi x (by first|exact hx|simp[hx]));have bn1:b∉g1:=fun hx=>hbn (by first|exact hx|simp[hx])
   have Fr1:aV wr 0 g1:=hFr.sub nd1 (fun x hx=>hfi x (by first|exact hx|simp[hx]));have bn2:b∉g2:=fun hx=>hbn (by first|exact hx|simp[hx])
   have Fr2:aV wr 0 g2:=hFr.sub nd2 (fun x hx=>hfi x (by first|exact hx|simp[hx]));have z0:∀off,wr.frozen? ⟨b,off,none⟩=false:=fun off=>(hFr.2 b hbf).2 off
   clear hri;have hI0:Inr b (o+i*7) (o+i*7+7) [] wr wr:=Inr.refl _ _ _ _ _;have hA0:=hat;clear hat;have q0:=hA0.head;have q1:=hA0.nth 1 rfl;have q2:=hA0.nth 2 rfl
   go_wp2_with fail
   refine(dV _ _ (by omega)).mono ?_;rintro e w1 ⟨rfl,hb1⟩;have hbW:=(((hI0.setCell (off:=o+i*7) (by omega) (by omega) (.int .i64 (K))).setCell (off:=o+i*7+1) (by omega) (by omega) (.int .i64 (K+1))).setCell (off:=o+i*7+2) (by omega) (by omega) (.int .i64 (K+1+1)))
   have hI1:=((((hI0.setCell (off:=o+i*7) (by omega) (by omega) (.int .i64 (K))).setCell (off:=o+i*7+1) (by omega) (by omega) (.int .i64 (K+1))).setCell (off:=o+i*7+2) (by omega) (by omega) (.int .i64 (K+1+1)))).below hbb hb1;have hA1:=((((hA0.set (j:=0) (by simp) (.int .i64 (K))).set (j:=1) (by simp) (.int .i64 (K+1))).set (j:=2) (by simp) (.int .i64 (K+1+1)))).below (b_ hbb hbW.size) hb1;have z1:∀off,w1.frozen? ⟨b,off,none⟩=false:=fun off=>(hI1.froz b off hbb).trans (hFr.2 b hbf |>.2 off)
   clear hbW hb1 z0 hA0 hI0 q0 q1 q2;have q3:=hA1.nth 3 rfl;have q4:=hA1.nth 4 rfl
   go_wp2_with fail
   have hbW:=(hI1.setCell (off:=o+i*7+3) (by omega) (by omega) (.string (fF (K+1+1+1))))
   refine(hM0 _ (i_ hlt) _ g0 _ _ (hV0.inr hbW bn0 (fun x hx=>bD)) (Fr0.inr (R.lt hV0) hbW) (by omega) (by omega)).mono ?_;rintro e w2 ⟨rfl,hS0,hb2⟩;have hI2:=(((hI1.setCell (off:=o+i*7+3) (by omega) (by omega) (.string (fF (K+1+1+1))))).mono (F':= []++g0) (fun x hx=>f_ _ hx)).touch hbb hb2 (fun x hx=>d_ _ hx) bn0;have hA2:=((hA1.set (j:=3) (by simp) (.string (fF (K+1+1+1))))).touch (b_ hbb hbW.size) hb2 bn0;have hbb2:b<w2.heap.size:=b_ hbb hI2.size;have hJ0_2:Inr b (o+i*7) (o+i*7+7) [] w2 w2:=Inr.refl _ _ _ _ _;have z2:∀off,w2.frozen? ⟨b,off,none⟩=false:=fun off=>(hI2.froz b off hbb).trans (hFr.2 b hbf |>.2 off)
   clear hbW hb2 z1 hA1 hI1 q3 q4;have q5:=hA2.nth 5 rfl
   go_wp2_with fail
   have hbW:=hI2;refine(hM1 _ (i_ hlt) _ g1 _ _ (hV1.inr hbW bn1 (fun x hx=>bn (bD) (D0_1 x hx))) (Fr1.inr (R.lt hV1) hbW) (by omega) (by omega)).mono ?_;rintro e w3 ⟨rfl,hS1,hb3⟩;have hI3:=((hI2).mono (F':=([]++g0)++g1) (fun x hx=>f_ _ hx)).touch hbb hb3 (fun x hx=>d_ _ hx) bn1;have hJ0_3:=((hJ0_2).mono (F':= []++g1) (fun x hx=>f_ _ hx)).touch hbb2 hb3 (fun x hx=>d_ _ hx) bn1;have hA3:=(hA2).touch (b_ hbb hbW.size) hb3 bn1;have hbb3:b<w3.heap.size:=b_ hbb hI3.size;have hJ1_3:Inr b (o+i*7) (o+i*7+7) [] w3 w3:=Inr.refl _ _ _ _ _;have z3:∀off,w3.frozen? ⟨b,off,none⟩=false:=fun off=>(hI3.froz b off hbb).trans (hFr.2 b hbf |>.2 off)
   clear hbW hb3 z2 hA2 hI2 hJ0_2 q5;have q6:=hA3.nth 6 rfl
   go_wp2_with fail
   have hbW:=hI3;refine(hM2 _ (i_ hlt) _ g2 _ _ (hV2.inr hbW bn2 (fun x hx=>bn (bn (bD) (D0_2 x hx)) (D1_2 x hx))) (Fr2.inr (R.lt hV2) hbW) (by omega) (by omega)).mono ?_;rintro e w4 ⟨rfl,hS2,hb4⟩;have hI4:=((hI3).mono (F':=(([]++g0)++g1)++g2) (fun x hx=>f_ _ hx)).touch hbb hb4 (fun x hx=>d_ _ hx) bn2;have hJ0_4:=((hJ0_3).mono (F':=([]++g1)++g2) (fun x hx=>f_ _ hx)).touch hbb2 hb4 (fun x hx=>d_ _ hx) bn2;have hJ1_4:=((hJ1_3).mono (F':= []++g2) (fun x hx=>f_ _ hx)).touch hbb3 hb4 (fun x hx=>d_ _ hx) bn2;have hA4:=(hA3).touch (b_ hbb hbW.size) hb4 bn2;have hbb4:b<w4.heap.size:=b_ hbb hI4.size;have hJ2_4:Inr b (o+i*7) (o+i*7+7) [] w4 w4:=Inr.refl _ _ _ _ _;have z4:∀off,w4.frozen? ⟨b,off,none⟩=false:=fun off=>(hI4.froz b off hbb).trans (hFr.2 b hbf |>.2 off)
   clear hbW hb4 z3 hA3 hI3 hJ0_3 hJ1_3 q6
   go_wp2_with fail
   have hIe:=hI4;have hAe:=hA4;have hSe0:=hS0.inr hJ0_4 bn0 (fun x hx=>bn (bn (bD) (D1_0 x hx)) (D2_0 x hx));have hSe1:=hS1.inr hJ1_4 bn1 (fun x hx=>bn (bD) (D2_1 x hx));have hSe2:=hS2.inr hJ2_4 bn2 (fun x hx=>bD);have hIf:=hIe.mono (F':=g0++(g1++(g2))) (fun x hx=>by
    simp only[o_,p_,false_or]at hx;rcases hx with(h|h)|h<;>simp[h])
   go_roundw
   case rel=>
    refine⟨i+1,K+1+1+1+1+(D.cnts (l[i].list.map GVal.toD):Int)+(D.cnts (l[i].cols.map ls):Int)+(D.cnts (l[i].rows.map GRow.toD):Int),by omega,by go_num,rfl, ?_, ?_,hT.trans (hIf.pX hbf hfi)⟩
    ·rw[hcn'.out];have:=hK'.out;push_cast;omega
    ·rw[← kL _ k hi',e_];exact hback _ _ _ (by rw[D.BH];exact GVal.sz_eq _) (GVal.uT (by have:=hK'.out;push_cast;omega) (by have:=hK'.out;push_cast;omega) (by have:=hK'.out;push_cast;omega) (by have:=hK'.out;push_cast;omega) (by have:=hK'.out;push_cast;omega) (by have:=hK'.out;push_cast;omega) (by have:=hK'.out;push_cast;omega) hSe0 hSe1 hSe2) hAe hIf
   case measure=>(simp[intOf]<;>omega)
  ·have hf:=g_ (show i=l.length by omega);have hK':=g_ hK;clear hK
   go_wp2_with fail
   go_ret
   have e1:=hf.out;have e2:=hK'.out;rw[k_ (by rw[a_];omega)]at e2;rw[gQ _ _ (by rw[a_];omega)]at hSi;exact⟨gW e2,hSi,hT⟩
theorem GVal.uU :∀(n:Nat) (x:GVal),SizeOf.sizeOf x≤n→aX Tryz.prog 15 (x.list.map GVal.toD)
 |0,x,h=>by cases x;simp at h
 |n+1,x,h=>vN _ (fun y hy=>GVal.uU n y (by have:=GVal.lt_of_mem hy;omega)) (fun y _=>mY _) (fun y _=>rX _)
theorem qH(l:List GVal):aX Tryz.prog 15 (l.map GVal.toD):=vN l (fun y _=>GVal.uU _ y (m_ _)) (fun y _=>mY _) (fun y _=>rX _)
theorem GExpr.kU(x:GExpr):x.toD.cnt=3+D.cnts (x.args.map GExpr.toD):=by
 simp only[GExpr.aj,D.cnt,D.cnts,li,ls]
 try omega
theorem GExpr.uT{w:World}{x:GExpr}{k:Int}{a0 a1 a2 a3:Int}{f0:List Nat}{v0:Value}(e0:a0=k)(e1:a1=k+((1:Nat):Int))(e2:a2=k+((1:Nat):Int)+((1:Nat):Int))(e3:a3=k+((1:Nat):Int)+((1:Nat):Int)+((1:Nat):Int))(s0:Sl w (D.mks (x.args.map GExpr.toD) a3) f0 v0):R w (x.toD.mk k) (f0) [.int .i64 a0,.int .i64 a1,.string (fF a2),v0]:=by
 subst e0 e1 e2 e3;simp only[GExpr.aj,D.mk,D.mks,D.cnt,D.cnts,rF,li,ls,dJ,dM,bT,gq,dL,h_,j_];exact⟨_,rfl,⟨_,rfl,⟨_,rfl,⟨_,_,_,_,(l_ _).symm,rfl,s0,⟨rfl,rfl⟩⟩⟩⟩⟩
theorem GExpr.sU{w:World}{x:GExpr}{k:Int}{fp:List Nat}{cs:List Value}(h:R w (x.toD.mk k) fp cs):∃(a0 a1 a2 a3:Int) (v0:Value) (f0:List Nat),a0=k∧a1=k+((1:Nat):Int)∧a2=k+((1:Nat):Int)+((1:Nat):Int)∧a3=k+((1:Nat):Int)+((1:Nat):Int)+((1:Nat):Int)∧fp=f0∧cs= [.int .i64 a0,.int .i64 a1,.string (fF a2),v0]∧Sl w (D.mks (x.args.map GExpr.toD) a3) f0 v0:=by
 simp only[GExpr.aj,D.mk,D.mks,D.cnt,D.cnts,rF,li,ls,dJ,dM,bT,gq,dL,h_,j_]at h;obtain⟨_,rfl,⟨_,rfl,⟨_,rfl,⟨_,_,_,_,rfl,rfl,s0,⟨rfl,rfl⟩⟩⟩⟩⟩:=h;exact⟨_,_,_,_,_,_,rfl,rfl,rfl,rfl,by simp,rfl,s0⟩
theorem GExpr.FQ{w:World}{x:GExpr}{k:Int}{a3:Int}{f0:List Nat}{v0:Value}(e3:a3=k+((0:Nat):Int)+((0:Nat):Int)+((0:Nat):Int))(s0:Sl w (D.mks (x.args.map GExpr.toD) a3) f0 v0):R w (x.toD.amk k) (f0) [.int .i64 x.kind,.int .i64 x.n,.string x.text,v0]:=by
 subst e3;simp only[GExpr.aj,D.amk,D.CO,D.acnt,D.l7,li,ls,dJ,dM,bT,gq,dL,h_,j_];exact⟨_,rfl,⟨_,rfl,⟨_,rfl,⟨_,_,_,_,(l_ _).symm,rfl,s0,⟨rfl,rfl⟩⟩⟩⟩⟩
theorem GExpr.zC{w:World}{x:GExpr}{k:Int}{fp:List Nat}{cs:List Value}(h:R w (x.toD.amk k) fp cs):∃(a3:Int) (v0:Value) (f0:List Nat),a3=k+((0:Nat):Int)+((0:Nat):Int)+((0:Nat):Int)∧fp=f0∧cs= [.int .i64 x.kind,.int .i64 x.n,.string x.text,v0]∧Sl w (D.mks (x.args.map GExpr.toD) a3) f0 v0:=by
 simp only[GExpr.aj,D.amk,D.CO,D.acnt,D.l7,li,ls,dJ,dM,bT,gq,dL,h_,j_]at h;obtain⟨_,rfl,⟨_,rfl,⟨_,rfl,⟨_,_,_,_,rfl,rfl,s0,⟨rfl,rfl⟩⟩⟩⟩⟩:=h;exact⟨_,_,_,rfl,by simp,rfl,s0⟩
theorem GExpr.oQ(x:GExpr):x.toD.acnt=D.cnts (x.args.map GExpr.toD):=by
 simp only[GExpr.aj,D.acnt,D.l7,li,ls]
 try omega
theorem xH(l:List GExpr)(hM0:∀x∈l,aX Tryz.prog 35 (x.args.map GExpr.toD)):aX Tryz.prog 35 (l.map GExpr.toD):=by
 intro w fp v k hS hF hk0 hk1;obtain⟨A,c,rfl,hl,hc⟩:=hS.au;have hm:l.length≤9223372036854775807:=by unfold maxLen at hc;omega
 clear hl hc
 go_enter Tryz.func35,Tryz.ntmps35
 go_wp2_with fail
 go_loopw [1,5] (fun kv iv wr=>∃(i:Nat) (K:Int),i≤l.length∧iv= .int .i64 i∧kv= .int .i64 K∧K=k+D.cnts ((l.map GExpr.toD).take i)∧Sl wr (part (l.map GExpr.toD) k i) fp (.slice A l.length c)∧Touch fp w wr) (fun _ iv _=>l.length - (intOf iv).toNat)
 case atStart=>exact⟨0,k,by omega,rfl,rfl,by simp[D.fD],by rw[lU];exact hS,Touch.refl _ _⟩
 case round=>
  obtain⟨i,K,hi,rfl,rfl,hK,hSi,hT⟩:=hrel;by_cases hlt:i<l.length
  ·have hi':i<(l.map GExpr.toD).length:=by rw[a_];exact hlt
   have hcn:=D.fK (l.map GExpr.toD) hi';have hle:=D.dG (l.map GExpr.toD) (i+1);rw[e_,GExpr.kU]at hcn;have hk2:0≤K:=by omega
   have hk3:K+3+(D.cnts (l[i].args.map GExpr.toD):Int)≤4611686018427387904:=by omega
   have hK':=g_ hK;have hcn':=g_ hcn;have hFr:=hF.touch (R.lt hS) hT;obtain⟨b,o,fi,ci,rfl,hbb,hbf,hri,hfi,hbn,hfn,hat,hback⟩:=hSi.focus hF.1 (jL GExpr.szs k i) (nX (l.map GExpr.toD) k hi')
   rw[e_]at hri;clear hK hcn hle;obtain⟨v0,fi,rfl,rfl,hV0⟩:=GExpr.opened.1 hri;obtain⟨A0,c0,rfl,hqa,hqb⟩:=hV0.au;clear hqa hqb;have nd0:=hfn;have bn0:b∉fi:=fun hx=>hbn (by first|exact hx|simp[hx])
   have Fr0:aV wr 0 fi:=hFr.sub nd0 (fun x hx=>hfi x (by first|exact hx|simp[hx]));have z0:∀off,wr.frozen? ⟨b,off,none⟩=false:=fun off=>(hFr.2 b hbf).2 off
   clear hri;have hI0:Inr b (o+i*4) (o+i*4+4) [] wr wr:=Inr.refl _ _ _ _ _;have hA0:=hat;clear hat;have q0:=hA0.head;have q1:=hA0.nth 1 rfl
   go_wp2_with fail
   refine(dV _ _ (by omega)).mono ?_;rintro e w1 ⟨rfl,hb1⟩;have hbW:=((hI0.setCell (off:=o+i*4) (by omega) (by omega) (.int .i64 (K))).setCell (off:=o+i*4+1) (by omega) (by omega) (.int .i64 (K+1)))
   have hI1:=(((hI0.setCell (off:=o+i*4) (by omega) (by omega) (.int .i64 (K))).setCell (off:=o+i*4+1) (by omega) (by omega) (.int .i64 (K+1)))).below hbb hb1;have hA1:=(((hA0.set (j:=0) (by simp) (.int .i64 (K))).set (j:=1) (by simp) (.int .i64 (K+1)))).below (b_ hbb hbW.size) hb1;have z1:∀off,w1.frozen? ⟨b,off,none⟩=false:=fun off=>(hI1.froz b off hbb).trans (hFr.2 b hbf |>.2 off)
   clear hbW hb1 z0 hA0 hI0 q0 q1;have q2:=hA1.nth 2 rfl;have q3:=hA1.nth 3 rfl
   go_wp2_with fail
   have hbW:=(hI1.setCell (off:=o+i*4+2) (by omega) (by omega) (.string (fF (K+1+1))))
   refine(hM0 _ (i_ hlt) _ fi _ _ (hV0.inr hbW bn0 (fun x hx=>bD)) (Fr0.inr (R.lt hV0) hbW) (by omega) (by omega)).mono ?_;rintro e w2 ⟨rfl,hS0,hb2⟩;have hI2:=(((hI1.setCell (off:=o+i*4+2) (by omega) (by omega) (.string (fF (K+1+1))))).mono (F':= []++fi) (fun x hx=>f_ _ hx)).touch hbb hb2 (fun x hx=>d_ _ hx) bn0;have hA2:=((hA1.set (j:=2) (by simp) (.string (fF (K+1+1))))).touch (b_ hbb hbW.size) hb2 bn0;have hbb2:b<w2.heap.size:=b_ hbb hI2.size;have hJ0_2:Inr b (o+i*4) (o+i*4+4) [] w2 w2:=Inr.refl _ _ _ _ _;have z2:∀off,w2.frozen? ⟨b,off,none⟩=false:=fun off=>(hI2.froz b off hbb).trans (hFr.2 b hbf |>.2 off)
   clear hbW hb2 z1 hA1 hI1 q2 q3
   go_wp2_with fail
   have hIe:=hI2;have hAe:=hA2;have hSe0:=hS0.inr hJ0_2 bn0 (fun x hx=>bD);have hIf:=hIe.mono (F':=fi) (fun x hx=>by simpa using hx)
   go_roundw
   case rel=>
    refine⟨i+1,K+1+1+1+(D.cnts (l[i].args.map GExpr.toD):Int),by omega,by go_num,rfl, ?_, ?_,hT.trans (hIf.pX hbf hfi)⟩
    ·rw[hcn'.out];have:=hK'.out;push_cast;omega
    ·rw[← kL _ k hi',e_];exact hback _ _ _ (by rw[D.BH];exact GExpr.sz_eq _) (GExpr.uT (by have:=hK'.out;push_cast;omega) (by have:=hK'.out;push_cast;omega) (by have:=hK'.out;push_cast;omega) (by have:=hK'.out;push_cast;omega) hSe0) hAe hIf
   case measure=>(simp[intOf]<;>omega)
  ·have hf:=g_ (show i=l.length by omega);have hK':=g_ hK;clear hK
   go_wp2_with fail
   go_ret
   have e1:=hf.out;have e2:=hK'.out;rw[k_ (by rw[a_];omega)]at e2;rw[gQ _ _ (by rw[a_];omega)]at hSi;exact⟨gW e2,hSi,hT⟩
theorem GExpr.uU :∀(n:Nat) (x:GExpr),SizeOf.sizeOf x≤n→aX Tryz.prog 35 (x.args.map GExpr.toD)
 |0,x,h=>by cases x;simp at h
 |n+1,x,h=>xH _ (fun y hy=>GExpr.uU n y (by have:=GExpr.lt_of_mem hy;omega))
theorem PI(l:List GExpr):aX Tryz.prog 35 (l.map GExpr.toD):=xH l (fun y _=>GExpr.uU _ y (m_ _))
theorem GPart.kU(x:GPart):x.toD.cnt=10+D.cnts (x.expr.args.map GExpr.toD)+D.cnts (x.value.list.map GVal.toD)+D.cnts (x.value.cols.map ls)+D.cnts (x.value.rows.map GRow.toD):=by
 simp only[GPart.aj,GExpr.aj,GVal.aj,D.cnt,D.cnts,li,ls]
 try omega
theorem GPart.uT{w:World}{x:GPart}{k:Int}{a0 a1 a2 a3 a4 a5 a6 a7 a8 a9 a10 a11 a12 a13:Int}{f0 f1 f2 f3:List Nat}{v0 v1 v2 v3:Value}(e0:a0=k)(e1:a1=k+((1:Nat):Int))(e2:a2=k+((1:Nat):Int)+((1:Nat):Int))(e3:a3=k+((1:Nat):Int)+((1:Nat):Int)+((1:Nat):Int))(e4:a4=k+((1:Nat):Int)+((1:Nat):Int)+((1:Nat):Int)+((1:Nat):Int))(e5:a5=k+((1:Nat):Int)+((1:Nat):Int)+((1:Nat):Int)+((1:Nat):Int)+((1:Nat):Int))(e6:a6=k+((1:Nat):Int)+((1:Nat):Int)+(((1+(1+(1+(D.cnts (x.expr.args.map GExpr.toD)+0)))):Nat):Int))(e7:a7=k+((1:Nat):Int)+((1:Nat):Int)+(((1+(1+(1+(D.cnts (x.expr.args.map GExpr.toD)+0)))):Nat):Int)+((1:Nat):Int))(e8:a8=k+((1:Nat):Int)+((1:Nat):Int)+(((1+(1+(1+(D.cnts (x.expr.args.map GExpr.toD)+0)))):Nat):Int)+((1:Nat):Int)+((1:Nat):Int))(e9:a9=k+((1:Nat):Int)+((1:Nat):Int)+(((1+(1+(1+(D.cnts (x.expr.args.map GExpr.toD)+0)))):Nat):Int)+((1:Nat):Int)+((1:Nat):Int)+((1:Nat):Int))(e10:a10=k+((1:Nat):Int)+((1:Nat):Int)+(((1+(1+(1+(D.cnts (x.expr.args.map GExpr.toD)+0)))):Nat):Int)+((1:Nat):Int)+((1:Nat):Int)+((1:Nat):Int)+((1:Nat):Int))(e11:a11=k+((1:Nat):Int)+((1:Nat):Int)+(((1+(1+(1+(D.cnts (x.expr.args.map GExpr.toD)+0)))):Nat):Int)+((1:Nat):Int)+((1:Nat):Int)+((1:Nat):Int)+((1:Nat):Int)+((D.cnts (x.value.list.map GVal.toD):Nat):Int))(e12:a12=k+((1:Nat):Int)+((1:Nat):Int)+(((1+(1+(1+(D.cnts (x.expr.args.map GExpr.toD)+0)))):Nat):Int)+((1:Nat):Int)+((1:Nat):Int)+((1:Nat):Int)+((1:Nat):Int)+((D.cnts (x.value.list.map GVal.toD):Nat):Int)+((D.cnts (x.value.cols.map ls):Nat):Int))(e13:a13=k+((1:Nat):Int)+((1:Nat):Int)+(((1+(1+(1+(D.cnts (x.expr.args.map GExpr.toD)+0)))):Nat):Int)+(((1+(1+(1+(1+(D.cnts (x.value.list.map GVal.toD)+(D.cnts (x.value.cols.map ls)+(D.cnts (x.value.rows.map GRow.toD)+0))))))):Nat):Int))(s0:Sl w (D.mks (x.expr.args.map GExpr.toD) a5) f0 v0)(s1:Sl w (D.mks (x.value.list.map GVal.toD) a10) f1 v1)(s2:Sl w (D.mks (x.value.cols.map ls) a11) f2 v2)(s3:Sl w (D.mks (x.value.rows.map GRow.toD) a12) f3 v3):R w (x.toD.mk k) (f0++(f1++(f2++(f3)))) [.int .i64 a0,.string (fF a1),.int .i64 a2,.int .i64 a3,.string (fF a4),v0,.int .i64 a6,.int .i64 a7,.int .i64 a8,.string (fF a9),v1,v2,v3,.int .i64 a13]:=by
 subst e0 e1 e2 e3 e4 e5 e6 e7 e8 e9 e10 e11 e12 e13;simp only[GPart.aj,GExpr.aj,GVal.aj,D.mk,D.mks,D.cnt,D.cnts,rF,li,ls,dJ,dM,bT,gq,dL,h_,j_];exact⟨_,rfl,⟨_,rfl,⟨_,rfl,⟨_,rfl,⟨_,rfl,⟨_,_,_,_,rfl,rfl,s0,⟨_,rfl,⟨_,rfl,⟨_,rfl,⟨_,rfl,⟨_,_,_,_,rfl,rfl,s1,⟨_,_,_,_,rfl,rfl,s2,⟨_,_,_,_,(l_ _).symm,rfl,s3,⟨_,rfl,⟨rfl,rfl⟩⟩⟩⟩⟩⟩⟩⟩⟩⟩⟩⟩⟩⟩⟩
theorem GPart.sU{w:World}{x:GPart}{k:Int}{fp:List Nat}{cs:List Value}(h:R w (x.toD.mk k) fp cs):∃(a0 a1 a2 a3 a4 a5 a6 a7 a8 a9 a10 a11 a12 a13:Int) (v0 v1 v2 v3:Value) (f0 f1 f2 f3:List Nat),a0=k∧a1=k+((1:Nat):Int)∧a2=k+((1:Nat):Int)+((1:Nat):Int)∧a3=k+((1:Nat):Int)+((1:Nat):Int)+((1:Nat):Int)∧a4=k+((1:Nat):Int)+((1:Nat):Int)+((1:Nat):Int)+((1:Nat):Int)∧a5=k+((1:Nat):Int)+((1:Nat):Int)+((1:Nat):Int)+((1:Nat):Int)+((1:Nat):Int)∧a6=k+((1:Nat):Int)+((1:Nat):Int)+(((1+(1+(1+(D.cnts (x.expr.args.map GExpr.toD)+0)))):Nat):Int)∧a7=k+((1:Nat):Int)+((1:Nat):Int)+(((1+(1+(1+(D.cnts (x.expr.args.map GExpr.toD)+0)))):Nat):Int)+((1:Nat):Int)∧a8=k+((1:Nat):Int)+((1:Nat):Int)+(((1+(1+(1+(D.cnts (x.expr.args.map GExpr.toD)+0)))):Nat):Int)+((1:Nat):Int)+((1:Nat):Int)∧a9=k+((1:Nat):Int)+((1:Nat):Int)+(((1+(1+(1+(D.cnts (x.expr.args.map GExpr.toD)+0)))):Nat):Int)+((1:Nat):Int)+((1:Nat):Int)+((1:Nat):Int)∧a10=k+((1:Nat):Int)+((1:Nat):Int)+(((1+(1+(1+(D.cnts (x.expr.args.map GExpr.toD)+0)))):Nat):Int)+((1:Nat):Int)+((1:Nat):Int)+((1:Nat):Int)+((1:Nat):Int)∧a11=k+((1:Nat):Int)+((1:Nat):Int)+(((1+(1+(1+(D.cnts (x.expr.args.map GExpr.toD)+0)))):Nat):Int)+((1:Nat):Int)+((1:Nat):Int)+((1:Nat):Int)+((1:Nat):Int)+((D.cnts (x.value.list.map GVal.toD):Nat):Int)∧a12=k+((1:Nat):Int)+((1:Nat):Int)+(((1+(1+(1+(D.cnts (x.expr.args.map GExpr.toD)+0)))):Nat):Int)+((1:Nat):Int)+((1:Nat):Int)+((1:Nat):Int)+((1:Nat):Int)+((D.cnts (x.value.list.map GVal.toD):Nat):Int)+((D.cnts (x.value.cols.map ls):Nat):Int)∧a13=k+((1:Nat):Int)+((1:Nat):Int)+(((1+(1+(1+(D.cnts (x.expr.args.map GExpr.toD)+0)))):Nat):Int)+(((1+(1+(1+(1+(D.cnts (x.value.list.map GVal.toD)+(D.cnts (x.value.cols.map ls)+(D.cnts (x.value.rows.map GRow.toD)+0))))))):Nat):Int)∧fp=f0++(f1++(f2++(f3)))∧cs= [.int .i64 a0,.string (fF a1),.int .i64 a2,.int .i64 a3,.string (fF a4),v0,.int .i64 a6,.int .i64 a7,.int .i64 a8,.string (fF a9),v1,v2,v3,.int .i64 a13]∧Sl w (D.mks (x.expr.args.map GExpr.toD) a5) f0 v0∧Sl w (D.mks (x.value.list.map GVal.toD) a10) f1 v1∧Sl w (D.mks (x.value.cols.map ls) a11) f2 v2∧Sl w (D.mks (x.value.rows.map GRow.toD) a12) f3 v3:=by
 simp only[GPart.aj,GExpr.aj,GVal.aj,D.mk,D.mks,D.cnt,D.cnts,rF,li,ls,dJ,dM,bT,gq,dL,h_,j_]at h;obtain⟨_,rfl,⟨_,rfl,⟨_,rfl,⟨_,rfl,⟨_,rfl,⟨_,_,_,_,rfl,rfl,s0,⟨_,rfl,⟨_,rfl,⟨_,rfl,⟨_,rfl,⟨_,_,_,_,rfl,rfl,s1,⟨_,_,_,_,rfl,rfl,s2,⟨_,_,_,_,rfl,rfl,s3,⟨_,rfl,⟨rfl,rfl⟩⟩⟩⟩⟩⟩⟩⟩⟩⟩⟩⟩⟩⟩⟩:=h;exact⟨_,_,_,_,_,_,_,_,_,_,_,_,_,_,_,_,_,_,_,_,_,_,rfl,rfl,rfl,rfl,rfl,rfl,rfl,rfl,rfl,rfl,rfl,rfl,rfl,rfl,by simp,rfl,s0,s1,s2,s3⟩
theorem GPart.FQ{w:World}{x:GPart}{k:Int}{a5 a10 a11 a12:Int}{f0 f1 f2 f3:List Nat}{v0 v1 v2 v3:Value}(e5:a5=k+((0:Nat):Int)+((0:Nat):Int)+((0:Nat):Int)+((0:Nat):Int)+((0:Nat):Int))(e10:a10=k+((0:Nat):Int)+((0:Nat):Int)+(((0+(0+(0+(D.cnts (x.expr.args.map GExpr.toD)+0)))):Nat):Int)+((0:Nat):Int)+((0:Nat):Int)+((0:Nat):Int)+((0:Nat):Int))(e11:a11=k+((0:Nat):Int)+((0:Nat):Int)+(((0+(0+(0+(D.cnts (x.expr.args.map GExpr.toD)+0)))):Nat):Int)+((0:Nat):Int)+((0:Nat):Int)+((0:Nat):Int)+((0:Nat):Int)+((D.cnts (x.value.list.map GVal.toD):Nat):Int))(e12:a12=k+((0:Nat):Int)+((0:Nat):Int)+(((0+(0+(0+(D.cnts (x.expr.args.map GExpr.toD)+0)))):Nat):Int)+((0:Nat):Int)+((0:Nat):Int)+((0:Nat):Int)+((0:Nat):Int)+((D.cnts (x.value.list.map GVal.toD):Nat):Int)+((D.cnts (x.value.cols.map ls):Nat):Int))(s0:Sl w (D.mks (x.expr.args.map GExpr.toD) a5) f0 v0)(s1:Sl w (D.mks (x.value.list.map GVal.toD) a10) f1 v1)(s2:Sl w (D.mks (x.value.cols.map ls) a11) f2 v2)(s3:Sl w (D.mks (x.value.rows.map GRow.toD) a12) f3 v3):R w (x.toD.amk k) (f0++(f1++(f2++(f3)))) [.int .i64 x.kind,.string x.name,.int .i64 x.expr.kind,.int .i64 x.expr.n,.string x.expr.text,v0,.int .i64 x.value.kind,.int .i64 x.value.n,.int .i64 x.value.step,.string x.value.text,v1,v2,v3,.int .i64 x.pos]:=by
 subst e5 e10 e11 e12;simp only[GPart.aj,GExpr.aj,GVal.aj,D.amk,D.CO,D.acnt,D.l7,li,ls,dJ,dM,bT,gq,dL,h_,j_];exact⟨_,rfl,⟨_,rfl,⟨_,rfl,⟨_,rfl,⟨_,rfl,⟨_,_,_,_,rfl,rfl,s0,⟨_,rfl,⟨_,rfl,⟨_,rfl,⟨_,rfl,⟨_,_,_,_,rfl,rfl,s1,⟨_,_,_,_,rfl,rfl,s2,⟨_,_,_,_,(l_ _).symm,rfl,s3,⟨_,rfl,⟨rfl,rfl⟩⟩⟩⟩⟩⟩⟩⟩⟩⟩⟩⟩⟩⟩⟩
theorem GPart.zC{w:World}{x:GPart}{k:Int}{fp:List Nat}{cs:List Value}(h:R w (x.toD.amk k) fp cs):∃(a5 a10 a11 a12:Int) (v0 v1 v2 v3:Value) (f0 f1 f2 f3:List Nat),a5=k+((0:Nat):Int)+((0:Nat):Int)+((0:Nat):Int)+((0:Nat):Int)+((0:Nat):Int)∧a10=k+((0:Nat):Int)+((0:Nat):Int)+(((0+(0+(0+(D.cnts (x.expr.args.map GExpr.toD)+0)))):Nat):Int)+((0:Nat):Int)+((0:Nat):Int)+((0:Nat):Int)+((0:Nat):Int)∧a11=k+((0:Nat):Int)+((0:Nat):Int)+(((0+(0+(0+(D.cnts (x.expr.args.map GExpr.toD)+0)))):Nat):Int)+((0:Nat):Int)+((0:Nat):Int)+((0:Nat):Int)+((0:Nat):Int)+((D.cnts (x.value.list.map GVal.toD):Nat):Int)∧a12=k+((0:Nat):Int)+((0:Nat):Int)+(((0+(0+(0+(D.cnts (x.expr.args.map GExpr.toD)+0)))):Nat):Int)+((0:Nat):Int)+((0:Nat):Int)+((0:Nat):Int)+((0:Nat):Int)+((D.cnts (x.value.list.map GVal.toD):Nat):Int)+((D.cnts (x.value.cols.map ls):Nat):Int)∧fp=f0++(f1++(f2++(f3)))∧cs= [.int .i64 x.kind,.string x.name,.int .i64 x.expr.kind,.int .i64 x.expr.n,.string x.expr.text,v0,.int .i64 x.value.kind,.int .i64 x.value.n,.int .i64 x.value.step,.string x.value.text,v1,v2,v3,.int .i64 x.pos]∧Sl w (D.mks (x.expr.args.map GExpr.toD) a5) f0 v0∧Sl w (D.mks (x.value.list.map GVal.toD) a10) f1 v1∧Sl w (D.mks (x.value.cols.map ls) a11) f2 v2∧Sl w (D.mks (x.value.rows.map GRow.toD) a12) f3 v3:=by
 simp only[GPart.aj,GExpr.aj,GVal.aj,D.amk,D.CO,D.acnt,D.l7,li,ls,dJ,dM,bT,gq,dL,h_,j_]at h;obtain⟨_,rfl,⟨_,rfl,⟨_,rfl,⟨_,rfl,⟨_,rfl,⟨_,_,_,_,rfl,rfl,s0,⟨_,rfl,⟨_,rfl,⟨_,rfl,⟨_,rfl,⟨_,_,_,_,rfl,rfl,s1,⟨_,_,_,_,rfl,rfl,s2,⟨_,_,_,_,rfl,rfl,s3,⟨_,rfl,⟨rfl,rfl⟩⟩⟩⟩⟩⟩⟩⟩⟩⟩⟩⟩⟩⟩⟩:=h;exact⟨_,_,_,_,_,_,_,_,_,_,_,_,rfl,rfl,rfl,rfl,by simp,rfl,s0,s1,s2,s3⟩
theorem GPart.oQ(x:GPart):x.toD.acnt=D.cnts (x.expr.args.map GExpr.toD)+D.cnts (x.value.list.map GVal.toD)+D.cnts (x.value.cols.map ls)+D.cnts (x.value.rows.map GRow.toD):=by
 simp only[GPart.aj,GExpr.aj,GVal.aj,D.acnt,D.l7,li,ls]
 try omega
theorem Hf(l:List GPart)(hM0:∀x∈l,aX Tryz.prog 35 (x.expr.args.map GExpr.toD))(hM1:∀x∈l,aX Tryz.prog 15 (x.value.list.map GVal.toD))(hM2:∀x∈l,aX Tryz.prog 36 (x.value.cols.map ls))(hM3:∀x∈l,aX Tryz.prog 37 (x.value.rows.map GRow.toD)):aX Tryz.prog 14 (l.map GPart.toD):=by
 intro w fp v k hS hF hk0 hk1;obtain⟨A,c,rfl,hl,hc⟩:=hS.au;have hm:l.length≤9223372036854775807:=by unfold maxLen at hc;omega
 clear hl hc
 go_enter Tryz.func14,Tryz.ntmps14
 go_wp2_with fail
 go_loopw [1,5] (fun kv iv wr=>∃(i:Nat) (K:Int),i≤l.length∧iv= .int .i64 i∧kv= .int .i64 K∧K=k+D.cnts ((l.map GPart.toD).take i)∧Sl wr (part (l.map GPart.toD) k i) fp (.slice A l.length c)∧Touch fp w wr) (fun _ iv _=>l.length - (intOf iv).toNat)
 case atStart=>exact⟨0,k,by omega,rfl,rfl,by simp[D.fD],by rw[lU];exact hS,Touch.refl _ _⟩
 case round=>
  obtain⟨i,K,hi,rfl,rfl,hK,hSi,hT⟩:=hrel;by_cases hlt:i<l.length
  ·have hi':i<(l.map GPart.toD).length:=by rw[a_];exact hlt
   have hcn:=D.fK (l.map GPart.toD) hi';have hle:=D.dG (l.map GPart.toD) (i+1);rw[e_,GPart.kU]at hcn;have hk2:0≤K:=by omega
   have hk3:K+10+(D.cnts (l[i].expr.args.map GExpr.toD):Int)+(D.cnts (l[i].value.list.map GVal.toD):Int)+(D.cnts (l[i].value.cols.map ls):Int)+(D.cnts (l[i].value.rows.map GRow.toD):Int)≤4611686018427387904:=by omega
   have hK':=g_ hK;have hcn':=g_ hcn;have hFr:=hF.touch (R.lt hS) hT;obtain⟨b,o,fi,ci,rfl,hbb,hbf,hri,hfi,hbn,hfn,hat,hback⟩:=hSi.focus hF.1 (jL GPart.szs k i) (nX (l.map GPart.toD) k hi')
   rw[e_]at hri;clear hK hcn hle;obtain⟨v0,v1,v2,v3,g0,g1,g2,g3,rfl,rfl,hV0,hV1,hV2,hV3⟩:=GPart.opened.1 hri;obtain⟨A0,c0,rfl,hqa,hqb⟩:=hV0.au;clear hqa hqb;obtain⟨A1,c1,rfl,hqa,hqb⟩:=hV1.au;clear hqa hqb;obtain⟨A2,c2,rfl,hqa,hqb⟩:=hV2.au;clear hqa hqb;obtain⟨A3,c3,rfl,hqa,hqb⟩:=hV3.au;clear hqa hqb;have nN1:=(c_.1 hfn).2.1;have nd0:=(c_.1 hfn).1;have D0_1:∀x∈g1,x∉g0:=fun x hx hy=>(c_.1 hfn).2.2 x hy x (by simp[hx]) rfl
   have D1_0:∀x∈g0,x∉g1:=fun x hx hy=>D0_1 x hy hx
   have D0_2:∀x∈g2,x∉g0:=fun x hx hy=>(c_.1 hfn).2.2 x hy x (by simp[hx]) rfl
   have D2_0:∀x∈g0,x∉g2:=fun x hx hy=>D0_2 x hy hx
   have D0_3:∀x∈g3,x∉g0:=fun x hx hy=>(c_.1 hfn).2.2 x hy x (by simp[hx]) rfl
   have D3_0:∀x∈g0,x∉g3:=fun x hx hy=>D0_3 x hy hx
   have nN2:=(c_.1 nN1).2.1;have nd1:=(c_.1 nN1).1;have D1_2:∀x∈g2,x∉g1:=fun x hx hy=>(c_.1 nN1).2.2 x hy x (by simp[hx]) rfl
   have D2_1:∀x∈g1,x∉g2:=fun x hx hy=>D1_2 x hy hx
   have D1_3:∀x∈g3,x∉g1:=fun x hx hy=>(c_.1 nN1).2.2 x hy x (by simp[hx]) rfl
   have D3_1:∀x∈g1,x∉g3:=fun x hx hy=>D1_3 x hy hx
   have nN3:=(c_.1 nN2).2.1;have nd2:=(c_.1 nN2).1;have D2_3:∀x∈g3,x∉g2:=fun x hx hy=>(c_.1 nN2).2.2 x hy x (by simp[hx]) rfl
   have D3_2:∀x∈g2,x∉g3:=fun x hx hy=>D2_3 x hy hx
   have nd3:=nN3;have bn0:b∉g0:=fun hx=>hbn (by first|exact hx|simp[hx])
   have Fr0:aV wr 0 g0:=hFr.sub nd0 (fun x hx=>hfi x (by first|exact hx|simp[hx]));have bn1:b∉g1:=fun hx=>hbn (by first|exact hx|simp[hx])
   have Fr1:aV wr 0 g1:=hFr.sub nd1 (fun x hx=>hfi x (by first|exact hx|simp[hx]));have bn2:b∉g2:=fun hx=>hbn (by first|exact hx|simp[hx])
   have Fr2:aV wr 0 g2:=hFr.sub nd2 (fun x hx=>hfi x (by first|exact hx|simp[hx]));have bn3:b∉g3:=fun hx=>hbn (by first|exact hx|simp[hx])
   have Fr3:aV wr 0 g3:=hFr.sub nd3 (fun x hx=>hfi x (by first|exact hx|simp[hx]));have z0:∀off,wr.frozen? ⟨b,off,none⟩=false:=fun off=>(hFr.2 b hbf).2 off
   clear hri;have hI0:Inr b (o+i*14) (o+i*14+14) [] wr wr:=Inr.refl _ _ _ _ _;have hA0:=hat;clear hat;have q0:=hA0.head
   go_wp2_with fail
   refine(dV _ _ (by omega)).mono ?_;rintro e w1 ⟨rfl,hb1⟩;have hbW:=(hI0.setCell (off:=o+i*14) (by omega) (by omega) (.int .i64 (K)))
   have hI1:=((hI0.setCell (off:=o+i*14) (by omega) (by omega) (.int .i64 (K)))).below hbb hb1;have hA1:=((hA0.set (j:=0) (by simp) (.int .i64 (K)))).below (b_ hbb hbW.size) hb1;have z1:∀off,w1.frozen? ⟨b,off,none⟩=false:=fun off=>(hI1.froz b off hbb).trans (hFr.2 b hbf |>.2 off)
   clear hbW hb1 z0 hA0 hI0 q0;have q1:=hA1.nth 1 rfl;have q2:=hA1.nth 2 rfl;have q3:=hA1.nth 3 rfl
   go_wp2_with fail
   refine(dV _ _ (by omega)).mono ?_;rintro e w2 ⟨rfl,hb2⟩;have hbW:=(((hI1.setCell (off:=o+i*14+1) (by omega) (by omega) (.string (fF (K+1)))).setCell (off:=o+i*14+2) (by omega) (by omega) (.int .i64 (K+1+1))).setCell (off:=o+i*14+3) (by omega) (by omega) (.int .i64 (K+1+1+1)))
   have hI2:=((((hI1.setCell (off:=o+i*14+1) (by omega) (by omega) (.string (fF (K+1)))).setCell (off:=o+i*14+2) (by omega) (by omega) (.int .i64 (K+1+1))).setCell (off:=o+i*14+3) (by omega) (by omega) (.int .i64 (K+1+1+1)))).below hbb hb2;have hA2:=((((hA1.set (j:=1) (by simp) (.string (fF (K+1)))).set (j:=2) (by simp) (.int .i64 (K+1+1))).set (j:=3) (by simp) (.int .i64 (K+1+1+1)))).below (b_ hbb hbW.size) hb2;have z2:∀off,w2.frozen? ⟨b,off,none⟩=false:=fun off=>(hI2.froz b off hbb).trans (hFr.2 b hbf |>.2 off)
   clear hbW hb2 z1 hA1 hI1 q1 q2 q3;have q4:=hA2.nth 4 rfl;have q5:=hA2.nth 5 rfl
   go_wp2_with fail
   have hbW:=(hI2.setCell (off:=o+i*14+4) (by omega) (by omega) (.string (fF (K+1+1+1+1))))
   refine(hM0 _ (i_ hlt) _ g0 _ _ (hV0.inr hbW bn0 (fun x hx=>bD)) (Fr0.inr (R.lt hV0) hbW) (by omega) (by omega)).mono ?_;rintro e w3 ⟨rfl,hS0,hb3⟩;have hI3:=(((hI2.setCell (off:=o+i*14+4) (by omega) (by omega) (.string (fF (K+1+1+1+1))))).mono (F':= []++g0) (fun x hx=>f_ _ hx)).touch hbb hb3 (fun x hx=>d_ _ hx) bn0;have hA3:=((hA2.set (j:=4) (by simp) (.string (fF (K+1+1+1+1))))).touch (b_ hbb hbW.size) hb3 bn0;have hbb3:b<w3.heap.size:=b_ hbb hI3.size;have hJ0_3:Inr b (o+i*14) (o+i*14+14) [] w3 w3:=Inr.refl _ _ _ _ _;have z3:∀off,w3.frozen? ⟨b,off,none⟩=false:=fun off=>(hI3.froz b off hbb).trans (hFr.2 b hbf |>.2 off)
   clear hbW hb3 z2 hA2 hI2 q4 q5;have q6:=hA3.nth 6 rfl;have q7:=hA3.nth 7 rfl;have q8:=hA3.nth 8 rfl
   go_wp2_with fail
   refine(dV _ _ (by omega)).mono ?_;rintro e w4 ⟨rfl,hb4⟩;have hbW:=(((hI3.setCell (off:=o+i*14+6) (by omega) (by omega) (.int .i64 (K+1+1+1+1+1+(D.cnts (l[i].expr.args.map GExpr.toD):Int)))).setCell (off:=o+i*14+7) (by omega) (by omega) (.int .i64 (K+1+1+1+1+1+(D.cnts (l[i].expr.args.map GExpr.toD):Int)+1))).setCell (off:=o+i*14+8) (by omega) (by omega) (.int .i64 (K+1+1+1+1+1+(D.cnts (l[i].expr.args.map GExpr.toD):Int)+1+1)))
   have hI4:=((((hI3.setCell (off:=o+i*14+6) (by omega) (by omega) (.int .i64 (K+1+1+1+1+1+(D.cnts (l[i].expr.args.map GExpr.toD):Int)))).setCell (off:=o+i*14+7) (by omega) (by omega) (.int .i64 (K+1+1+1+1+1+(D.cnts (l[i].expr.args.map GExpr.toD):Int)+1))).setCell (off:=o+i*14+8) (by omega) (by omega) (.int .i64 (K+1+1+1+1+1+(D.cnts (l[i].expr.args.map GExpr.toD):Int)+1+1)))).below hbb hb4;have hJ0_4:=((((hJ0_3.setCell (off:=o+i*14+6) (by omega) (by omega) (.int .i64 (K+1+1+1+1+1+(D.cnts (l[i].expr.args.map GExpr.toD):Int)))).setCell (off:=o+i*14+7) (by omega) (by omega) (.int .i64 (K+1+1+1+1+1+(D.cnts (l[i].expr.args.map GExpr.toD):Int)+1))).setCell (off:=o+i*14+8) (by omega) (by omega) (.int .i64 (K+1+1+1+1+1+(D.cnts (l[i].expr.args.map GExpr.toD):Int)+1+1)))).below hbb3 hb4;have hA4:=((((hA3.set (j:=6) (by simp) (.int .i64 (K+1+1+1+1+1+(D.cnts (l[i].expr.args.map GExpr.toD):Int)))).set (j:=7) (by simp) (.int .i64 (K+1+1+1+1+1+(D.cnts (l[i].expr.args.map GExpr.toD):Int)+1))).set (j:=8) (by simp) (.int .i64 (K+1+1+1+1+1+(D.cnts (l[i].expr.args.map GExpr.toD):Int)+1+1)))).below (b_ hbb hbW.size) hb4;have z4:∀off,w4.frozen? ⟨b,off,none⟩=false:=fun off=>(hI4.froz b off hbb).trans (hFr.2 b hbf |>.2 off)
   clear hbW hb4 z3 hA3 hI3 hJ0_3 q6 q7 q8;have q9:=hA4.nth 9 rfl;have q10:=hA4.nth 10 rfl
   go_wp2_with fail
   have hbW:=(hI4.setCell (off:=o+i*14+9) (by omega) (by omega) (.string (fF (K+1+1+1+1+1+(D.cnts (l[i].expr.args.map GExpr.toD):Int)+1+1+1))))
   refine(hM1 _ (i_ hlt) _ g1 _ _ (hV1.inr hbW bn1 (fun x hx=>bn (bD) (D0_1 x hx))) (Fr1.inr (R.lt hV1) hbW) (by omega) (by omega)).mono ?_;rintro e w5 ⟨rfl,hS1,hb5⟩;have hI5:=(((hI4.setCell (off:=o+i*14+9) (by omega) (by omega) (.string (fF (K+1+1+1+1+1+(D.cnts (l[i].expr.args.map GExpr.toD):Int)+1+1+1))))).mono (F':=([]++g0)++g1) (fun x hx=>f_ _ hx)).touch hbb hb5 (fun x hx=>d_ _ hx) bn1;have hJ0_5:=(((hJ0_4.setCell (off:=o+i*14+9) (by omega) (by omega) (.string (fF (K+1+1+1+1+1+(D.cnts (l[i].expr.args.map GExpr.toD):Int)+1+1+1))))).mono (F':= []++g1) (fun x hx=>f_ _ hx)).touch hbb3 hb5 (fun x hx=>d_ _ hx) bn1;have hA5:=((hA4.set (j:=9) (by simp) (.string (fF (K+1+1+1+1+1+(D.cnts (l[i].expr.args.map GExpr.toD):Int)+1+1+1))))).touch (b_ hbb hbW.size) hb5 bn1;have hbb5:b<w5.heap.size:=b_ hbb hI5.size;have hJ1_5:Inr b (o+i*14) (o+i*14+14) [] w5 w5:=Inr.refl _ _ _ _ _;have z5:∀off,w5.frozen? ⟨b,off,none⟩=false:=fun off=>(hI5.froz b off hbb).trans (hFr.2 b hbf |>.2 off)
   clear hbW hb5 z4 hA4 hI4 hJ0_4 q9 q10;have q11:=hA5.nth 11 rfl
   go_wp2_with fail
   have hbW:=hI5;refine(hM2 _ (i_ hlt) _ g2 _ _ (hV2.inr hbW bn2 (fun x hx=>bn (bn (bD) (D0_2 x hx)) (D1_2 x hx))) (Fr2.inr (R.lt hV2) hbW) (by omega) (by omega)).mono ?_;rintro e w6 ⟨rfl,hS2,hb6⟩;have hI6:=((hI5).mono (F':=(([]++g0)++g1)++g2) (fun x hx=>f_ _ hx)).touch hbb hb6 (fun x hx=>d_ _ hx) bn2;have hJ0_6:=((hJ0_5).mono (F':=([]++g1)++g2) (fun x hx=>f_ _ hx)).touch hbb3 hb6 (fun x hx=>d_ _ hx) bn2;have hJ1_6:=((hJ1_5).mono (F':= []++g2) (fun x hx=>f_ _ hx)).touch hbb5 hb6 (fun x hx=>d_ _ hx) bn2;have hA6:=(hA5).touch (b_ hbb hbW.size) hb6 bn2;have hbb6:b<w6.heap.size:=b_ hbb hI6.size;have hJ2_6:Inr b (o+i*14) (o+i*14+14) [] w6 w6:=Inr.refl _ _ _ _ _;have z6:∀off,w6.frozen? ⟨b,off,none⟩=false:=fun off=>(hI6.froz b off hbb).trans (hFr.2 b hbf |>.2 off)
   clear hbW hb6 z5 hA5 hI5 hJ0_5 hJ1_5 q11;have q12:=hA6.nth 12 rfl
   go_wp2_with fail
   have hbW:=hI6;refine(hM3 _ (i_ hlt) _ g3 _ _ (hV3.inr hbW bn3 (fun x hx=>bn (bn (bn (bD) (D0_3 x hx)) (D1_3 x hx)) (D2_3 x hx))) (Fr3.inr (R.lt hV3) hbW) (by omega) (by omega)).mono ?_;rintro e w7 ⟨rfl,hS3,hb7⟩;have hI7:=((hI6).mono (F':=((([]++g0)++g1)++g2)++g3) (fun x hx=>f_ _ hx)).touch hbb hb7 (fun x hx=>d_ _ hx) bn3;have hJ0_7:=((hJ0_6).mono (F':=(([]++g1)++g2)++g3) (fun x hx=>f_ _ hx)).touch hbb3 hb7 (fun x hx=>d_ _ hx) bn3;have hJ1_7:=((hJ1_6).mono (F':=([]++g2)++g3) (fun x hx=>f_ _ hx)).touch hbb5 hb7 (fun x hx=>d_ _ hx) bn3;have hJ2_7:=((hJ2_6).mono (F':= []++g3) (fun x hx=>f_ _ hx)).touch hbb6 hb7 (fun x hx=>d_ _ hx) bn3;have hA7:=(hA6).touch (b_ hbb hbW.size) hb7 bn3;have hbb7:b<w7.heap.size:=b_ hbb hI7.size;have hJ3_7:Inr b (o+i*14) (o+i*14+14) [] w7 w7:=Inr.refl _ _ _ _ _;have z7:∀off,w7.frozen? ⟨b,off,none⟩=false:=fun off=>(hI7.froz b off hbb).trans (hFr.2 b hbf |>.2 off)
   clear hbW hb7 z6 hA6 hI6 hJ0_6 hJ1_6 hJ2_6 q12;have q13:=hA7.nth 13 rfl
   go_wp2_with fail
   have hIe:=(hI7.setCell (off:=o+i*14+13) (by omega) (by omega) (.int .i64 (K+1+1+1+1+1+(D.cnts (l[i].expr.args.map GExpr.toD):Int)+1+1+1+1+(D.cnts (l[i].value.list.map GVal.toD):Int)+(D.cnts (l[i].value.cols.map ls):Int)+(D.cnts (l[i].value.rows.map GRow.toD):Int))))
   have hAe:=(hA7.set (j:=13) (by simp) (.int .i64 (K+1+1+1+1+1+(D.cnts (l[i].expr.args.map GExpr.toD):Int)+1+1+1+1+(D.cnts (l[i].value.list.map GVal.toD):Int)+(D.cnts (l[i].value.cols.map ls):Int)+(D.cnts (l[i].value.rows.map GRow.toD):Int))))
   have hSe0:=hS0.inr (hJ0_7.setCell (off:=o+i*14+13) (by omega) (by omega) (.int .i64 (K+1+1+1+1+1+(D.cnts (l[i].expr.args.map GExpr.toD):Int)+1+1+1+1+(D.cnts (l[i].value.list.map GVal.toD):Int)+(D.cnts (l[i].value.cols.map ls):Int)+(D.cnts (l[i].value.rows.map GRow.toD):Int)))) bn0 (fun x hx=>bn (bn (bn (bD) (D1_0 x hx)) (D2_0 x hx)) (D3_0 x hx));have hSe1:=hS1.inr (hJ1_7.setCell (off:=o+i*14+13) (by omega) (by omega) (.int .i64 (K+1+1+1+1+1+(D.cnts (l[i].expr.args.map GExpr.toD):Int)+1+1+1+1+(D.cnts (l[i].value.list.map GVal.toD):Int)+(D.cnts (l[i].value.cols.map ls):Int)+(D.cnts (l[i].value.rows.map GRow.toD):Int)))) bn1 (fun x hx=>bn (bn (bD) (D2_1 x hx)) (D3_1 x hx));have hSe2:=hS2.inr (hJ2_7.setCell (off:=o+i*14+13) (by omega) (by omega) (.int .i64 (K+1+1+1+1+1+(D.cnts (l[i].expr.args.map GExpr.toD):Int)+1+1+1+1+(D.cnts (l[i].value.list.map GVal.toD):Int)+(D.cnts (l[i].value.cols.map ls):Int)+(D.cnts (l[i].value.rows.map GRow.toD):Int)))) bn2 (fun x hx=>bn (bD) (D3_2 x hx));have hSe3:=hS3.inr (hJ3_7.setCell (off:=o+i*14+13) (by omega) (by omega) (.int .i64 (K+1+1+1+1+1+(D.cnts (l[i].expr.args.map GExpr.toD):Int)+1+1+1+1+(D.cnts (l[i].value.list.map GVal.toD):Int)+(D.cnts (l[i].value.cols.map ls):Int)+(D.cnts (l[i].value.rows.map GRow.toD):Int)))) bn3 (fun x hx=>bD);have hIf:=hIe.mono (F':=g0++(g1++(g2++(g3)))) (fun x hx=>by
    simp only[o_,p_,false_or]at hx;rcases hx with((h|h)|h)|h<;>simp[h])
   go_roundw
   case rel=>
    refine⟨i+1,K+1+1+1+1+1+(D.cnts (l[i].expr.args.map GExpr.toD):Int)+1+1+1+1+(D.cnts (l[i].value.list.map GVal.toD):Int)+(D.cnts (l[i].value.cols.map ls):Int)+(D.cnts (l[i].value.rows.map GRow.toD):Int)+1,by omega,by go_num,rfl, ?_, ?_,hT.trans (hIf.pX hbf hfi)⟩
    ·rw[hcn'.out];have:=hK'.out;push_cast;omega
    ·rw[← kL _ k hi',e_];exact hback _ _ _ (by rw[D.BH];exact GPart.sz_eq _) (GPart.uT (by have:=hK'.out;push_cast;omega) (by have:=hK'.out;push_cast;omega) (by have:=hK'.out;push_cast;omega) (by have:=hK'.out;push_cast;omega) (by have:=hK'.out;push_cast;omega) (by have:=hK'.out;push_cast;omega) (by have:=hK'.out;push_cast;omega) (by have:=hK'.out;push_cast;omega) (by have:=hK'.out;push_cast;omega) (by have:=hK'.out;push_cast;omega) (by have:=hK'.out;push_cast;omega) (by have:=hK'.out;push_cast;omega) (by have:=hK'.out;push_cast;omega) (by have:=hK'.out;push_cast;omega) hSe0 hSe1 hSe2 hSe3) hAe hIf
   case measure=>(simp[intOf]<;>omega)
  ·have hf:=g_ (show i=l.length by omega);have hK':=g_ hK;clear hK
   go_wp2_with fail
   go_ret
   have e1:=hf.out;have e2:=hK'.out;rw[k_ (by rw[a_];omega)]at e2;rw[gQ _ _ (by rw[a_];omega)]at hSi;exact⟨gW e2,hSi,hT⟩
theorem FZ(l:List GPart):aX Tryz.prog 14 (l.map GPart.toD):=Hf l (fun y _=>PI _) (fun y _=>qH _) (fun y _=>mY _) (fun y _=>rX _)
theorem GBind.kU(x:GBind):x.toD.cnt=5+D.cnts (x.value.list.map GVal.toD)+D.cnts (x.value.cols.map ls)+D.cnts (x.value.rows.map GRow.toD):=by
 simp only[GBind.aj,GVal.aj,D.cnt,D.cnts,li,ls]
 try omega
theorem GBind.uT{w:World}{x:GBind}{k:Int}{a0 a1 a2 a3 a4 a5 a6 a7:Int}{f0 f1 f2:List Nat}{v0 v1 v2:Value}(e0:a0=k)(e1:a1=k+((1:Nat):Int))(e2:a2=k+((1:Nat):Int)+((1:Nat):Int))(e3:a3=k+((1:Nat):Int)+((1:Nat):Int)+((1:Nat):Int))(e4:a4=k+((1:Nat):Int)+((1:Nat):Int)+((1:Nat):Int)+((1:Nat):Int))(e5:a5=k+((1:Nat):Int)+((1:Nat):Int)+((1:Nat):Int)+((1:Nat):Int)+((1:Nat):Int))(e6:a6=k+((1:Nat):Int)+((1:Nat):Int)+((1:Nat):Int)+((1:Nat):Int)+((1:Nat):Int)+((D.cnts (x.value.list.map GVal.toD):Nat):Int))(e7:a7=k+((1:Nat):Int)+((1:Nat):Int)+((1:Nat):Int)+((1:Nat):Int)+((1:Nat):Int)+((D.cnts (x.value.list.map GVal.toD):Nat):Int)+((D.cnts (x.value.cols.map ls):Nat):Int))(s0:Sl w (D.mks (x.value.list.map GVal.toD) a5) f0 v0)(s1:Sl w (D.mks (x.value.cols.map ls) a6) f1 v1)(s2:Sl w (D.mks (x.value.rows.map GRow.toD) a7) f2 v2):R w (x.toD.mk k) (f0++(f1++(f2))) [.string (fF a0),.int .i64 a1,.int .i64 a2,.int .i64 a3,.string (fF a4),v0,v1,v2]:=by
 subst e0 e1 e2 e3 e4 e5 e6 e7;simp only[GBind.aj,GVal.aj,D.mk,D.mks,D.cnt,D.cnts,rF,li,ls,dJ,dM,bT,gq,dL,h_,j_];exact⟨_,rfl,⟨_,rfl,⟨_,rfl,⟨_,rfl,⟨_,rfl,⟨_,_,_,_,rfl,rfl,s0,⟨_,_,_,_,rfl,rfl,s1,⟨_,_,_,_,(l_ _).symm,rfl,s2,⟨rfl,rfl⟩⟩⟩⟩⟩⟩⟩⟩⟩
theorem GBind.sU{w:World}{x:GBind}{k:Int}{fp:List Nat}{cs:List Value}(h:R w (x.toD.mk k) fp cs):∃(a0 a1 a2 a3 a4 a5 a6 a7:Int) (v0 v1 v2:Value) (f0 f1 f2:List Nat),a0=k∧a1=k+((1:Nat):Int)∧a2=k+((1:Nat):Int)+((1:Nat):Int)∧a3=k+((1:Nat):Int)+((1:Nat):Int)+((1:Nat):Int)∧a4=k+((1:Nat):Int)+((1:Nat):Int)+((1:Nat):Int)+((1:Nat):Int)∧a5=k+((1:Nat):Int)+((1:Nat):Int)+((1:Nat):Int)+((1:Nat):Int)+((1:Nat):Int)∧a6=k+((1:Nat):Int)+((1:Nat):Int)+((1:Nat):Int)+((1:Nat):Int)+((1:Nat):Int)+((D.cnts (x.value.list.map GVal.toD):Nat):Int)∧a7=k+((1:Nat):Int)+((1:Nat):Int)+((1:Nat):Int)+((1:Nat):Int)+((1:Nat):Int)+((D.cnts (x.value.list.map GVal.toD):Nat):Int)+((D.cnts (x.value.cols.map ls):Nat):Int)∧fp=f0++(f1++(f2))∧cs= [.string (fF a0),.int .i64 a1,.int .i64 a2,.int .i64 a3,.string (fF a4),v0,v1,v2]∧Sl w (D.mks (x.value.list.map GVal.toD) a5) f0 v0∧Sl w (D.mks (x.value.cols.map ls) a6) f1 v1∧Sl w (D.mks (x.value.rows.map GRow.toD) a7) f2 v2:=by
 simp only[GBind.aj,GVal.aj,D.mk,D.mks,D.cnt,D.cnts,rF,li,ls,dJ,dM,bT,gq,dL,h_,j_]at h;obtain⟨_,rfl,⟨_,rfl,⟨_,rfl,⟨_,rfl,⟨_,rfl,⟨_,_,_,_,rfl,rfl,s0,⟨_,_,_,_,rfl,rfl,s1,⟨_,_,_,_,rfl,rfl,s2,⟨rfl,rfl⟩⟩⟩⟩⟩⟩⟩⟩⟩:=h;exact⟨_,_,_,_,_,_,_,_,_,_,_,_,_,_,rfl,rfl,rfl,rfl,rfl,rfl,rfl,rfl,by simp,rfl,s0,s1,s2⟩
theorem GBind.FQ{w:World}{x:GBind}{k:Int}{a5 a6 a7:Int}{f0 f1 f2:List Nat}{v0 v1 v2:Value}(e5:a5=k+((0:Nat):Int)+((0:Nat):Int)+((0:Nat):Int)+((0:Nat):Int)+((0:Nat):Int))(e6:a6=k+((0:Nat):Int)+((0:Nat):Int)+((0:Nat):Int)+((0:Nat):Int)+((0:Nat):Int)+((D.cnts (x.value.list.map GVal.toD):Nat):Int))(e7:a7=k+((0:Nat):Int)+((0:Nat):Int)+((0:Nat):Int)+((0:Nat):Int)+((0:Nat):Int)+((D.cnts (x.value.list.map GVal.toD):Nat):Int)+((D.cnts (x.value.cols.map ls):Nat):Int))(s0:Sl w (D.mks (x.value.list.map GVal.toD) a5) f0 v0)(s1:Sl w (D.mks (x.value.cols.map ls) a6) f1 v1)(s2:Sl w (D.mks (x.value.rows.map GRow.toD) a7) f2 v2):R w (x.toD.amk k) (f0++(f1++(f2))) [.string x.name,.int .i64 x.value.kind,.int .i64 x.value.n,.int .i64 x.value.step,.string x.value.text,v0,v1,v2]:=by
 subst e5 e6 e7;simp only[GBind.aj,GVal.aj,D.amk,D.CO,D.acnt,D.l7,li,ls,dJ,dM,bT,gq,dL,h_,j_];exact⟨_,rfl,⟨_,rfl,⟨_,rfl,⟨_,rfl,⟨_,rfl,⟨_,_,_,_,rfl,rfl,s0,⟨_,_,_,_,rfl,rfl,s1,⟨_,_,_,_,(l_ _).symm,rfl,s2,⟨rfl,rfl⟩⟩⟩⟩⟩⟩⟩⟩⟩
theorem GBind.zC{w:World}{x:GBind}{k:Int}{fp:List Nat}{cs:List Value}(h:R w (x.toD.amk k) fp cs):∃(a5 a6 a7:Int) (v0 v1 v2:Value) (f0 f1 f2:List Nat),a5=k+((0:Nat):Int)+((0:Nat):Int)+((0:Nat):Int)+((0:Nat):Int)+((0:Nat):Int)∧a6=k+((0:Nat):Int)+((0:Nat):Int)+((0:Nat):Int)+((0:Nat):Int)+((0:Nat):Int)+((D.cnts (x.value.list.map GVal.toD):Nat):Int)∧a7=k+((0:Nat):Int)+((0:Nat):Int)+((0:Nat):Int)+((0:Nat):Int)+((0:Nat):Int)+((D.cnts (x.value.list.map GVal.toD):Nat):Int)+((D.cnts (x.value.cols.map ls):Nat):Int)∧fp=f0++(f1++(f2))∧cs= [.string x.name,.int .i64 x.value.kind,.int .i64 x.value.n,.int .i64 x.value.step,.string x.value.text,v0,v1,v2]∧Sl w (D.mks (x.value.list.map GVal.toD) a5) f0 v0∧Sl w (D.mks (x.value.cols.map ls) a6) f1 v1∧Sl w (D.mks (x.value.rows.map GRow.toD) a7) f2 v2:=by
 simp only[GBind.aj,GVal.aj,D.amk,D.CO,D.acnt,D.l7,li,ls,dJ,dM,bT,gq,dL,h_,j_]at h;obtain⟨_,rfl,⟨_,rfl,⟨_,rfl,⟨_,rfl,⟨_,rfl,⟨_,_,_,_,rfl,rfl,s0,⟨_,_,_,_,rfl,rfl,s1,⟨_,_,_,_,rfl,rfl,s2,⟨rfl,rfl⟩⟩⟩⟩⟩⟩⟩⟩⟩:=h;exact⟨_,_,_,_,_,_,_,_,_,rfl,rfl,rfl,by simp,rfl,s0,s1,s2⟩
theorem GBind.oQ(x:GBind):x.toD.acnt=D.cnts (x.value.list.map GVal.toD)+D.cnts (x.value.cols.map ls)+D.cnts (x.value.rows.map GRow.toD):=by
 simp only[GBind.aj,GVal.aj,D.acnt,D.l7,li,ls]
 try omega
theorem Bg(l:List GBind)(hM0:∀x∈l,aX Tryz.prog 15 (x.value.list.map GVal.toD))(hM1:∀x∈l,aX Tryz.prog 36 (x.value.cols.map ls))(hM2:∀x∈l,aX Tryz.prog 37 (x.value.rows.map GRow.toD)):aX Tryz.prog 16 (l.map GBind.toD):=by
 intro w fp v k hS hF hk0 hk1;obtain⟨A,c,rfl,hl,hc⟩:=hS.au;have hm:l.length≤9223372036854775807:=by unfold maxLen at hc;omega
 clear hl hc
 go_enter Tryz.func16,Tryz.ntmps16
 go_wp2_with fail
 go_loopw [1,5] (fun kv iv wr=>∃(i:Nat) (K:Int),i≤l.length∧iv= .int .i64 i∧kv= .int .i64 K∧K=k+D.cnts ((l.map GBind.toD).take i)∧Sl wr (part (l.map GBind.toD) k i) fp (.slice A l.length c)∧Touch fp w wr) (fun _ iv _=>l.length - (intOf iv).toNat)
 case atStart=>exact⟨0,k,by omega,rfl,rfl,by simp[D.fD],by rw[lU];exact hS,Touch.refl _ _⟩
 case round=>
  obtain⟨i,K,hi,rfl,rfl,hK,hSi,hT⟩:=hrel;by_cases hlt:i<l.length
  ·have hi':i<(l.map GBind.toD).length:=by rw[a_];exact hlt
   have hcn:=D.fK (l.map GBind.toD) hi';have hle:=D.dG (l.map GBind.toD) (i+1);rw[e_,GBind.kU]at hcn;have hk2:0≤K:=by omega
   have hk3:K+5+(D.cnts (l[i].value.list.map GVal.toD):Int)+(D.cnts (l[i].value.cols.map ls):Int)+(D.cnts (l[i].value.rows.map GRow.toD):Int)≤4611686018427387904:=by omega
   have hK':=g_ hK;have hcn':=g_ hcn;have hFr:=hF.touch (R.lt hS) hT;obtain⟨b,o,fi,ci,rfl,hbb,hbf,hri,hfi,hbn,hfn,hat,hback⟩:=hSi.focus hF.1 (jL GBind.szs k i) (nX (l.map GBind.toD) k hi')
   rw[e_]at hri;clear hK hcn hle;obtain⟨v0,v1,v2,g0,g1,g2,rfl,rfl,hV0,hV1,hV2⟩:=GBind.opened.1 hri;obtain⟨A0,c0,rfl,hqa,hqb⟩:=hV0.au;clear hqa hqb;obtain⟨A1,c1,rfl,hqa,hqb⟩:=hV1.au;clear hqa hqb;obtain⟨A2,c2,rfl,hqa,hqb⟩:=hV2.au;clear hqa hqb;have nN1:=(c_.1 hfn).2.1;have nd0:=(c_.1 hfn).1;have D0_1:∀x∈g1,x∉g0:=fun x hx hy=>(c_.1 hfn).2.2 x hy x (by simp[hx]) rfl
   have D1_0:∀x∈g0,x∉g1:=fun x hx hy=>D0_1 x hy hx
   have D0_2:∀x∈g2,x∉g0:=fun x hx hy=>(c_.1 hfn).2.2 x hy x (by simp[hx]) rfl
   have D2_0:∀x∈g0,x∉g2:=fun x hx hy=>D0_2 x hy hx
   have nN2:=(c_.1 nN1).2.1;have nd1:=(c_.1 nN1).1;have D1_2:∀x∈g2,x∉g1:=fun x hx hy=>(c_.1 nN1).2.2 x hy x (by simp[hx]) rfl
   have D2_1:∀x∈g1,x∉g2:=fun x hx hy=>D1_2 x hy hx
   have nd2:=nN2;have bn0:b∉g0:=fun hx=>hbn (by first|exact hx|simp[hx])
   have Fr0:aV wr 0 g0:=hFr.sub nd0 (fun x hx=>hfi x (by first|exact hx|simp[hx]));have bn1:b∉g1:=fun hx=>hbn (by first|exact hx|simp[hx])
   have Fr1:aV wr 0 g1:=hFr.sub nd1 (fun x hx=>hfi x (by first|exact hx|simp[hx]));have bn2:b∉g2:=fun hx=>hbn (by first|exact hx|simp[hx])
   have Fr2:aV wr 0 g2:=hFr.sub nd2 (fun x hx=>hfi x (by first|exact hx|simp[hx]));have z0:∀off,wr.frozen? ⟨b,off,none⟩=false:=fun off=>(hFr.2 b hbf).2 off
   clear hri;have hI0:Inr b (o+i*8) (o+i*8+8) [] wr wr:=Inr.refl _ _ _ _ _;have hA0:=hat;clear hat
   go_wp2_with fail
   refine(dV _ _ (by omega)).mono ?_;rintro e w1 ⟨rfl,hb1⟩;have hbW:=hI0;have hI1:=(hI0).below hbb hb1;have hA1:=(hA0).below (b_ hbb hbW.size) hb1;have z1:∀off,w1.frozen? ⟨b,off,none⟩=false:=fun off=>(hI1.froz b off hbb).trans (hFr.2 b hbf |>.2 off)
   clear hbW hb1 z0 hA0 hI0;have q0:=hA1.head;have q1:=hA1.nth 1 rfl;have q2:=hA1.nth 2 rfl;have q3:=hA1.nth 3 rfl
   go_wp2_with fail
   refine(dV _ _ (by omega)).mono ?_;rintro e w2 ⟨rfl,hb2⟩;have hbW:=((((hI1.setCell (off:=o+i*8) (by omega) (by omega) (.string (fF (K)))).setCell (off:=o+i*8+1) (by omega) (by omega) (.int .i64 (K+1))).setCell (off:=o+i*8+2) (by omega) (by omega) (.int .i64 (K+1+1))).setCell (off:=o+i*8+3) (by omega) (by omega) (.int .i64 (K+1+1+1)))
   have hI2:=(((((hI1.setCell (off:=o+i*8) (by omega) (by omega) (.string (fF (K)))).setCell (off:=o+i*8+1) (by omega) (by omega) (.int .i64 (K+1))).setCell (off:=o+i*8+2) (by omega) (by omega) (.int .i64 (K+1+1))).setCell (off:=o+i*8+3) (by omega) (by omega) (.int .i64 (K+1+1+1)))).below hbb hb2;have hA2:=(((((hA1.set (j:=0) (by simp) (.string (fF (K)))).set (j:=1) (by simp) (.int .i64 (K+1))).set (j:=2) (by simp) (.int .i64 (K+1+1))).set (j:=3) (by simp) (.int .i64 (K+1+1+1)))).below (b_ hbb hbW.size) hb2;have z2:∀off,w2.frozen? ⟨b,off,none⟩=false:=fun off=>(hI2.froz b off hbb).trans (hFr.2 b hbf |>.2 off)
   clear hbW hb2 z1 hA1 hI1 q0 q1 q2 q3;have q4:=hA2.nth 4 rfl;have q5:=hA2.nth 5 rfl
   go_wp2_with fail
   have hbW:=(hI2.setCell (off:=o+i*8+4) (by omega) (by omega) (.string (fF (K+1+1+1+1))))
   refine(hM0 _ (i_ hlt) _ g0 _ _ (hV0.inr hbW bn0 (fun x hx=>bD)) (Fr0.inr (R.lt hV0) hbW) (by omega) (by omega)).mono ?_;rintro e w3 ⟨rfl,hS0,hb3⟩;have hI3:=(((hI2.setCell (off:=o+i*8+4) (by omega) (by omega) (.string (fF (K+1+1+1+1))))).mono (F':= []++g0) (fun x hx=>f_ _ hx)).touch hbb hb3 (fun x hx=>d_ _ hx) bn0;have hA3:=((hA2.set (j:=4) (by simp) (.string (fF (K+1+1+1+1))))).touch (b_ hbb hbW.size) hb3 bn0;have hbb3:b<w3.heap.size:=b_ hbb hI3.size;have hJ0_3:Inr b (o+i*8) (o+i*8+8) [] w3 w3:=Inr.refl _ _ _ _ _;have z3:∀off,w3.frozen? ⟨b,off,none⟩=false:=fun off=>(hI3.froz b off hbb).trans (hFr.2 b hbf |>.2 off)
   clear hbW hb3 z2 hA2 hI2 q4 q5;have q6:=hA3.nth 6 rfl
   go_wp2_with fail
   have hbW:=hI3;refine(hM1 _ (i_ hlt) _ g1 _ _ (hV1.inr hbW bn1 (fun x hx=>bn (bD) (D0_1 x hx))) (Fr1.inr (R.lt hV1) hbW) (by omega) (by omega)).mono ?_;rintro e w4 ⟨rfl,hS1,hb4⟩;have hI4:=((hI3).mono (F':=([]++g0)++g1) (fun x hx=>f_ _ hx)).touch hbb hb4 (fun x hx=>d_ _ hx) bn1;have hJ0_4:=((hJ0_3).mono (F':= []++g1) (fun x hx=>f_ _ hx)).touch hbb3 hb4 (fun x hx=>d_ _ hx) bn1;have hA4:=(hA3).touch (b_ hbb hbW.size) hb4 bn1;have hbb4:b<w4.heap.size:=b_ hbb hI4.size;have hJ1_4:Inr b (o+i*8) (o+i*8+8) [] w4 w4:=Inr.refl _ _ _ _ _;have z4:∀off,w4.frozen? ⟨b,off,none⟩=false:=fun off=>(hI4.froz b off hbb).trans (hFr.2 b hbf |>.2 off)
   clear hbW hb4 z3 hA3 hI3 hJ0_3 q6;have q7:=hA4.nth 7 rfl
   go_wp2_with fail
   have hbW:=hI4;refine(hM2 _ (i_ hlt) _ g2 _ _ (hV2.inr hbW bn2 (fun x hx=>bn (bn (bD) (D0_2 x hx)) (D1_2 x hx))) (Fr2.inr (R.lt hV2) hbW) (by omega) (by omega)).mono ?_;rintro e w5 ⟨rfl,hS2,hb5⟩;have hI5:=((hI4).mono (F':=(([]++g0)++g1)++g2) (fun x hx=>f_ _ hx)).touch hbb hb5 (fun x hx=>d_ _ hx) bn2;have hJ0_5:=((hJ0_4).mono (F':=([]++g1)++g2) (fun x hx=>f_ _ hx)).touch hbb3 hb5 (fun x hx=>d_ _ hx) bn2;have hJ1_5:=((hJ1_4).mono (F':= []++g2) (fun x hx=>f_ _ hx)).touch hbb4 hb5 (fun x hx=>d_ _ hx) bn2;have hA5:=(hA4).touch (b_ hbb hbW.size) hb5 bn2;have hbb5:b<w5.heap.size:=b_ hbb hI5.size;have hJ2_5:Inr b (o+i*8) (o+i*8+8) [] w5 w5:=Inr.refl _ _ _ _ _;have z5:∀off,w5.frozen? ⟨b,off,none⟩=false:=fun off=>(hI5.froz b off hbb).trans (hFr.2 b hbf |>.2 off)
   clear hbW hb5 z4 hA4 hI4 hJ0_4 hJ1_4 q7
   go_wp2_with fail
   have hIe:=hI5;have hAe:=hA5;have hSe0:=hS0.inr hJ0_5 bn0 (fun x hx=>bn (bn (bD) (D1_0 x hx)) (D2_0 x hx));have hSe1:=hS1.inr hJ1_5 bn1 (fun x hx=>bn (bD) (D2_1 x hx));have hSe2:=hS2.inr hJ2_5 bn2 (fun x hx=>bD);have hIf:=hIe.mono (F':=g0++(g1++(g2))) (fun x hx=>by
    simp only[o_,p_,false_or]at hx;rcases hx with(h|h)|h<;>simp[h])
   go_roundw
   case rel=>
    refine⟨i+1,K+1+1+1+1+1+(D.cnts (l[i].value.list.map GVal.toD):Int)+(D.cnts (l[i].value.cols.map ls):Int)+(D.cnts (l[i].value.rows.map GRow.toD):Int),by omega,by go_num,rfl, ?_, ?_,hT.trans (hIf.pX hbf hfi)⟩
    ·rw[hcn'.out];have:=hK'.out;push_cast;omega
    ·rw[← kL _ k hi',e_];exact hback _ _ _ (by rw[D.BH];exact GBind.sz_eq _) (GBind.uT (by have:=hK'.out;push_cast;omega) (by have:=hK'.out;push_cast;omega) (by have:=hK'.out;push_cast;omega) (by have:=hK'.out;push_cast;omega) (by have:=hK'.out;push_cast;omega) (by have:=hK'.out;push_cast;omega) (by have:=hK'.out;push_cast;omega) (by have:=hK'.out;push_cast;omega) hSe0 hSe1 hSe2) hAe hIf
   case measure=>(simp[intOf]<;>omega)
  ·have hf:=g_ (show i=l.length by omega);have hK':=g_ hK;clear hK
   go_wp2_with fail
   go_ret
   have e1:=hf.out;have e2:=hK'.out;rw[k_ (by rw[a_];omega)]at e2;rw[gQ _ _ (by rw[a_];omega)]at hSi;exact⟨gW e2,hSi,hT⟩
theorem Hg(l:List GBind):aX Tryz.prog 16 (l.map GBind.toD):=Bg l (fun y _=>qH _) (fun y _=>mY _) (fun y _=>rX _)
theorem KG(l:List Int):bW Tryz.prog 64 (l.map li):=by
 intro w fp v k hS hk0 hk1;obtain⟨A,c,rfl,hl,hc⟩:=hS.form;rw[D.bJ,a_]at hl hS⊢;have hm:l.length≤9223372036854775807:=by unfold maxLen at hc;omega
 clear hl hc
 go_enter Tryz.func64,Tryz.ntmps64
 go_wp2_with fail
 go_loopw [1,5] (fun kv iv wr=>∃(i:Nat) (K:Int),i≤l.length∧iv= .int .i64 i∧kv= .int .i64 K∧K=k+D.cnts ((l.map li).take i)∧Below w.heap.size w wr) (fun _ iv _=>l.length - (intOf iv).toNat)
 case atStart=>exact⟨0,k,by omega,rfl,rfl,by simp[D.fD],n_ _ _⟩
 case round=>
  obtain⟨i,K,hi,rfl,rfl,hK,hb⟩:=hrel;by_cases hlt:i<l.length
  ·have hi':i<(l.map li).length:=by rw[a_];exact hlt
   have hcn:=D.fK (l.map li) hi';have hle:=D.dG (l.map li) (i+1);have hc1:((l.map li)[i]).cnt=1:=by rw[e_];rfl
   rw[hc1]at hcn;have hk2:0≤K:=by omega
   have hk3:K+1≤4611686018427387904:=by omega
   have hK':=g_ hK;have hcn':=g_ hcn;obtain⟨b,o,fi,ci,rfl,hbb,hbf,hri,hfi,hat⟩:=hS.elem (s:=1) (fun d hd=>jL uV k (l.map li).length d (by rw[gQ _ _ (m_ _)];exact hd)) (wC (l.map li) k hi');rw[e_]at hri;clear hK hcn hle;obtain⟨rfl,rfl⟩:=hri;simp only[q_]at hat;have q0:=hat.head;have q0:wr.cell? ⟨b,o+i,none⟩=some (.int .i64 K):=by
    have q1:w.cell? ⟨b,o+i,none⟩=some (.int .i64 (k+(D.cnts ((l.map li).take i):Int))):=hat.head;rw[hb.cell (p:=⟨b,o+i,none⟩) hbb,hK'.out];exact q1
   clear hat
   go_wp2_with fail
   go_roundw
   case rel=>exact⟨i+1,K+1,by omega,by go_num,rfl,by rw[hcn'.out];have:=hK'.out;push_cast;omega,hb⟩
   case measure=>(simp[intOf]<;>omega)
  ·have hf:=g_ (show i=l.length by omega);have hK':=g_ hK;clear hK
   go_wp2_with fail
   go_ret
   have e1:=hf.out;have e2:=hK'.out;rw[k_ (by rw[a_];omega)]at e2;exact⟨gW e2,hb⟩
theorem Ui(l:List Int):bW Tryz.prog 64 (l.map li):=KG l
theorem CU(l:List ByteArray):bW Tryz.prog 39 (l.map ls):=by
 intro w fp v k hS hk0 hk1;obtain⟨A,c,rfl,hl,hc⟩:=hS.form;rw[D.bJ,a_]at hl hS⊢;have hm:l.length≤9223372036854775807:=by unfold maxLen at hc;omega
 clear hl hc
 go_enter Tryz.func39,Tryz.ntmps39
 go_wp2_with fail
 go_loopw [1,5] (fun kv iv wr=>∃(i:Nat) (K:Int),i≤l.length∧iv= .int .i64 i∧kv= .int .i64 K∧K=k+D.cnts ((l.map ls).take i)∧Below w.heap.size w wr) (fun _ iv _=>l.length - (intOf iv).toNat)
 case atStart=>exact⟨0,k,by omega,rfl,rfl,by simp[D.fD],n_ _ _⟩
 case round=>
  obtain⟨i,K,hi,rfl,rfl,hK,hb⟩:=hrel;by_cases hlt:i<l.length
  ·have hi':i<(l.map ls).length:=by rw[a_];exact hlt
   have hcn:=D.fK (l.map ls) hi';have hle:=D.dG (l.map ls) (i+1);have hc1:((l.map ls)[i]).cnt=1:=by rw[e_];rfl
   rw[hc1]at hcn;have hk2:0≤K:=by omega
   have hk3:K+1≤4611686018427387904:=by omega
   have hK':=g_ hK;have hcn':=g_ hcn;obtain⟨b,o,fi,ci,rfl,hbb,hbf,hri,hfi,hat⟩:=hS.elem (s:=1) (fun d hd=>jL gZ k (l.map ls).length d (by rw[gQ _ _ (m_ _)];exact hd)) (wC (l.map ls) k hi');rw[e_]at hri;clear hK hcn hle;obtain⟨rfl,rfl⟩:=hri;simp only[q_]at hat;have q0:=hat.head;have q0:wr.cell? ⟨b,o+i,none⟩=some (.string (fF K)):=by
    have q1:w.cell? ⟨b,o+i,none⟩=some (.string (fF (k+(D.cnts ((l.map ls).take i):Int)))):=hat.head;rw[hb.cell (p:=⟨b,o+i,none⟩) hbb,hK'.out];exact q1
   clear hat
   go_wp2_with fail
   have hbp:b<wr.heap.size:=b_ hbb hb.size
   go_region_held3 (fun w'=>w'.cell? ⟨b,o+i,none⟩=some (.string (fF (K)))) (go_keep)
    ((go_at_call 34;refine(dV _ _ (by omega)).mono ?_;rintro e w1 ⟨rfl,hb1⟩;have L1:Below wr.heap.size wr w1:=(n_ _ _).drew.trans hb1;have hc1:∀off,w1.cell? ⟨b,off,none⟩=wr.cell? ⟨b,off,none⟩:=fun off=>L1.cell (p:=⟨b,off,none⟩) hbp))
   have G1:Below w.heap.size w w1:=hb.trans (L1.mono hb.size);clear hb1 L1 hc1 hbp
   go_wp2_with fail
   go_roundw
   case rel=>exact⟨i+1,K+1,by omega,by go_num,rfl,by rw[hcn'.out];have:=hK'.out;push_cast;omega,G1⟩
   case measure=>(simp[intOf]<;>omega)
  ·have hf:=g_ (show i=l.length by omega);have hK':=g_ hK;clear hK
   go_wp2_with fail
   go_ret
   have e1:=hf.out;have e2:=hK'.out;rw[k_ (by rw[a_];omega)]at e2;exact⟨gW e2,hb⟩
theorem oU(l:List ByteArray):bW Tryz.prog 39 (l.map ls):=CU l
theorem CZ(l:List GOrigin):bW Tryz.prog 65 (l.map GOrigin.toD):=by
 intro w fp v k hS hk0 hk1;obtain⟨A,c,rfl,hl,hc⟩:=hS.form;rw[D.bJ,a_]at hl hS⊢;have hm:l.length≤9223372036854775807:=by unfold maxLen at hc;omega
 clear hl hc
 go_enter Tryz.func65,Tryz.ntmps65
 go_wp2_with fail
 go_loopw [1,5] (fun kv iv wr=>∃(i:Nat) (K:Int),i≤l.length∧iv= .int .i64 i∧kv= .int .i64 K∧K=k+D.cnts ((l.map GOrigin.toD).take i)∧Below w.heap.size w wr) (fun _ iv _=>l.length - (intOf iv).toNat)
 case atStart=>exact⟨0,k,by omega,rfl,rfl,by simp[D.fD],n_ _ _⟩
 case round=>
  obtain⟨i,K,hi,rfl,rfl,hK,hb⟩:=hrel;by_cases hlt:i<l.length
  ·have hi':i<(l.map GOrigin.toD).length:=by rw[a_];exact hlt
   have hcn:=D.fK (l.map GOrigin.toD) hi';have hle:=D.dG (l.map GOrigin.toD) (i+1);rw[e_,GOrigin.kU]at hcn;have hk2:0≤K:=by omega
   have hk3:K+2≤4611686018427387904:=by omega
   have hK':=g_ hK;have hcn':=g_ hcn;obtain⟨b,o,fi,ci,rfl,hbb,hbf,hri,hfi,hat⟩:=hS.elem (s:=2) (fun d hd=>jL GOrigin.szs k (l.map GOrigin.toD).length d (by rw[gQ _ _ (m_ _)];exact hd)) (wC (l.map GOrigin.toD) k hi');rw[e_]at hri;clear hK hcn hle;obtain⟨a0,a1,e0,e1,rfl,rfl⟩:=GOrigin.sU hri;have d0:K=a0:=by have:=hK'.out;omega
   have d1:a1=K+1:=by have:=hK'.out;push_cast at e1;omega
   clear e0 e1;subst d0 d1;clear hri;have q0:wr.cell? ⟨b,o+i*2,none⟩=some (.int .i64 (K)):=(hb.cell (p:=⟨b,o+i*2,none⟩) hbb).trans (hat.head);have q1:wr.cell? ⟨b,o+i*2+1,none⟩=some (.int .i64 (K+1)):=(hb.cell (p:=⟨b,o+i*2+1,none⟩) hbb).trans (hat.nth 1 rfl)
   go_wp2_with fail
   go_roundw
   case rel=>exact⟨i+1,K+1+1,by omega,by go_num,rfl,by rw[hcn'.out];have:=hK'.out;push_cast;omega,hb⟩
   case measure=>(simp[intOf]<;>omega)
  ·have hf:=g_ (show i=l.length by omega);have hK':=g_ hK;clear hK
   go_wp2_with fail
   go_ret
   have e1:=hf.out;have e2:=hK'.out;rw[k_ (by rw[a_];omega)]at e2;exact⟨gW e2,hb⟩
theorem KE(l:List GOrigin):bW Tryz.prog 65 (l.map GOrigin.toD):=CZ l
theorem KC(l:List GRow)(hM0:∀x∈l,bW Tryz.prog 64 (x.cells.map li))(hM1:∀x∈l,bW Tryz.prog 65 (x.src.map GOrigin.toD)):bW Tryz.prog 40 (l.map GRow.toD):=by
 intro w fp v k hS hk0 hk1;obtain⟨A,c,rfl,hl,hc⟩:=hS.form;rw[D.bJ,a_]at hl hS⊢;have hm:l.length≤9223372036854775807:=by unfold maxLen at hc;omega
 clear hl hc
 go_enter Tryz.func40,Tryz.ntmps40
 go_wp2_with fail
 go_loopw [1,5] (fun kv iv wr=>∃(i:Nat) (K:Int),i≤l.length∧iv= .int .i64 i∧kv= .int .i64 K∧K=k+D.cnts ((l.map GRow.toD).take i)∧Below w.heap.size w wr) (fun _ iv _=>l.length - (intOf iv).toNat)
 case atStart=>exact⟨0,k,by omega,rfl,rfl,by simp[D.fD],n_ _ _⟩
 case round=>
  obtain⟨i,K,hi,rfl,rfl,hK,hb⟩:=hrel;by_cases hlt:i<l.length
  ·have hi':i<(l.map GRow.toD).length:=by rw[a_];exact hlt
   have hcn:=D.fK (l.map GRow.toD) hi';have hle:=D.dG (l.map GRow.toD) (i+1);rw[e_,GRow.kU]at hcn;have hk2:0≤K:=by omega
   have hk3:K+0+(D.cnts (l[i].cells.map li):Int)+(D.cnts (l[i].src.map GOrigin.toD):Int)≤4611686018427387904:=by omega
   have hK':=g_ hK;have hcn':=g_ hcn;obtain⟨b,o,fi,ci,rfl,hbb,hbf,hri,hfi,hat⟩:=hS.elem (s:=2) (fun d hd=>jL GRow.szs k (l.map GRow.toD).length d (by rw[gQ _ _ (m_ _)];exact hd)) (wC (l.map GRow.toD) k hi');rw[e_]at hri;clear hK hcn hle;obtain⟨a0,a1,v0,v1,g0,g1,e0,e1,rfl,rfl,hV0,hV1⟩:=GRow.sU hri;have d0:K=a0:=by have:=hK'.out;omega
   have d1:a1=K+(D.cnts (l[i].cells.map li):Int):=by have:=hK'.out;push_cast at e1;omega
   clear e0 e1;subst d0 d1;obtain⟨A0,c0,rfl,hqa,hqb⟩:=hV0.form;simp only[D.bJ,a_]at hqa hV0 hat hri;clear hqa hqb;obtain⟨A1,c1,rfl,hqa,hqb⟩:=hV1.form;simp only[D.bJ,a_]at hqa hV1 hat hri;clear hqa hqb;clear hri;have q0:wr.cell? ⟨b,o+i*2,none⟩=some (.slice A0 l[i].cells.length c0):=(hb.cell (p:=⟨b,o+i*2,none⟩) hbb).trans (hat.head)
   go_wp2_with fail
   refine(hM0 _ (i_ hlt) _ _ _ _ (hV0.below hb) (by omega) (by omega)).mono ?_;rintro e w1 ⟨rfl,hb1⟩;have G1:Below w.heap.size w w1:=hb.trans (hb1.mono hb.size);clear hb1 q0;have q1:w1.cell? ⟨b,o+i*2+1,none⟩=some (.slice A1 l[i].src.length c1):=(G1.cell (p:=⟨b,o+i*2+1,none⟩) hbb).trans (hat.nth 1 rfl)
   go_wp2_with fail
   refine(hM1 _ (i_ hlt) _ _ _ _ (hV1.below G1) (by omega) (by omega)).mono ?_;rintro e w2 ⟨rfl,hb2⟩;have G2:Below w.heap.size w w2:=G1.trans (hb2.mono G1.size);clear hb2 q1
   go_wp2_with fail
   go_roundw
   case rel=>exact⟨i+1,K+(D.cnts (l[i].cells.map li):Int)+(D.cnts (l[i].src.map GOrigin.toD):Int),by omega,by go_num,rfl,by rw[hcn'.out];have:=hK'.out;push_cast;omega,G2⟩
   case measure=>(simp[intOf]<;>omega)
  ·have hf:=g_ (show i=l.length by omega);have hK':=g_ hK;clear hK
   go_wp2_with fail
   go_ret
   have e1:=hf.out;have e2:=hK'.out;rw[k_ (by rw[a_];omega)]at e2;exact⟨gW e2,hb⟩
theorem wR(l:List GRow):bW Tryz.prog 40 (l.map GRow.toD):=KC l (fun y _=>Ui _) (fun y _=>KE _)
theorem vO(l:List GVal)(hM0:∀x∈l,bW Tryz.prog 38 (x.list.map GVal.toD))(hM1:∀x∈l,bW Tryz.prog 39 (x.cols.map ls))(hM2:∀x∈l,bW Tryz.prog 40 (x.rows.map GRow.toD)):bW Tryz.prog 38 (l.map GVal.toD):=by
 intro w fp v k hS hk0 hk1;obtain⟨A,c,rfl,hl,hc⟩:=hS.form;rw[D.bJ,a_]at hl hS⊢;have hm:l.length≤9223372036854775807:=by unfold maxLen at hc;omega
 clear hl hc
 go_enter Tryz.func38,Tryz.ntmps38
 go_wp2_with fail
 go_loopw [1,5] (fun kv iv wr=>∃(i:Nat) (K:Int),i≤l.length∧iv= .int .i64 i∧kv= .int .i64 K∧K=k+D.cnts ((l.map GVal.toD).take i)∧Below w.heap.size w wr) (fun _ iv _=>l.length - (intOf iv).toNat)
 case atStart=>exact⟨0,k,by omega,rfl,rfl,by simp[D.fD],n_ _ _⟩
 case round=>
  obtain⟨i,K,hi,rfl,rfl,hK,hb⟩:=hrel;by_cases hlt:i<l.length
  ·have hi':i<(l.map GVal.toD).length:=by rw[a_];exact hlt
   have hcn:=D.fK (l.map GVal.toD) hi';have hle:=D.dG (l.map GVal.toD) (i+1);rw[e_,GVal.kU]at hcn;have hk2:0≤K:=by omega
   have hk3:K+4+(D.cnts (l[i].list.map GVal.toD):Int)+(D.cnts (l[i].cols.map ls):Int)+(D.cnts (l[i].rows.map GRow.toD):Int)≤4611686018427387904:=by omega
   have hK':=g_ hK;have hcn':=g_ hcn;obtain⟨b,o,fi,ci,rfl,hbb,hbf,hri,hfi,hat⟩:=hS.elem (s:=7) (fun d hd=>jL GVal.szs k (l.map GVal.toD).length d (by rw[gQ _ _ (m_ _)];exact hd)) (wC (l.map GVal.toD) k hi');rw[e_]at hri;clear hK hcn hle;obtain⟨a0,a1,a2,a3,a4,a5,a6,v0,v1,v2,g0,g1,g2,e0,e1,e2,e3,e4,e5,e6,rfl,rfl,hV0,hV1,hV2⟩:=GVal.sU hri;have d0:K=a0:=by have:=hK'.out;omega
   have d1:a1=K+1:=by have:=hK'.out;push_cast at e1;omega
   have d2:a2=K+1+1:=by have:=hK'.out;push_cast at e2;omega
   have d3:a3=K+1+1+1:=by have:=hK'.out;push_cast at e3;omega
   have d4:a4=K+1+1+1+1:=by have:=hK'.out;push_cast at e4;omega
   have d5:a5=K+1+1+1+1+(D.cnts (l[i].list.map GVal.toD):Int):=by have:=hK'.out;push_cast at e5;omega
   have d6:a6=K+1+1+1+1+(D.cnts (l[i].list.map GVal.toD):Int)+(D.cnts (l[i].cols.map ls):Int):=by have:=hK'.out;push_cast at e6;omega
   clear e0 e1 e2 e3 e4 e5 e6;subst d0 d1 d2 d3 d4 d5 d6;obtain⟨A0,c0,rfl,hqa,hqb⟩:=hV0.form;simp only[D.bJ,a_]at hqa hV0 hat hri;clear hqa hqb;obtain⟨A1,c1,rfl,hqa,hqb⟩:=hV1.form;simp only[D.bJ,a_]at hqa hV1 hat hri;clear hqa hqb;obtain⟨A2,c2,rfl,hqa,hqb⟩:=hV2.form;simp only[D.bJ,a_]at hqa hV2 hat hri;clear hqa hqb;clear hri;have q0:wr.cell? ⟨b,o+i*7,none⟩=some (.int .i64 (K)):=(hb.cell (p:=⟨b,o+i*7,none⟩) hbb).trans (hat.head);have q1:wr.cell? ⟨b,o+i*7+1,none⟩=some (.int .i64 (K+1)):=(hb.cell (p:=⟨b,o+i*7+1,none⟩) hbb).trans (hat.nth 1 rfl);have q2:wr.cell? ⟨b,o+i*7+2,none⟩=some (.int .i64 (K+1+1)):=(hb.cell (p:=⟨b,o+i*7+2,none⟩) hbb).trans (hat.nth 2 rfl);have q3:wr.cell? ⟨b,o+i*7+3,none⟩=some (.string (fF (K+1+1+1))):=(hb.cell (p:=⟨b,o+i*7+3,none⟩) hbb).trans (hat.nth 3 rfl)
   go_wp2_with fail
   have hbp:b<wr.heap.size:=b_ hbb hb.size
   go_region_held3 (fun w'=>w'.cell? ⟨b,o+i*7+3,none⟩=some (.string (fF (K+1+1+1)))) (go_keep)
    ((go_at_call 34;refine(dV _ _ (by omega)).mono ?_;rintro e w1 ⟨rfl,hb1⟩;have L1:Below wr.heap.size wr w1:=(n_ _ _).drew.trans hb1;have hc1:∀off,w1.cell? ⟨b,off,none⟩=wr.cell? ⟨b,off,none⟩:=fun off=>L1.cell (p:=⟨b,off,none⟩) hbp))
   have G1:Below w.heap.size w w1:=hb.trans (L1.mono hb.size);clear hb1 L1 hc1 hbp q0 q1 q2 q3;have q4:w1.cell? ⟨b,o+i*7+4,none⟩=some (.slice A0 l[i].list.length c0):=(G1.cell (p:=⟨b,o+i*7+4,none⟩) hbb).trans (hat.nth 4 rfl)
   go_wp2_with fail
   refine(hM0 _ (i_ hlt) _ _ _ _ (hV0.below G1) (by omega) (by omega)).mono ?_;rintro e w2 ⟨rfl,hb2⟩;have G2:Below w.heap.size w w2:=G1.trans (hb2.mono G1.size);clear hb2 q4;have q5:w2.cell? ⟨b,o+i*7+5,none⟩=some (.slice A1 l[i].cols.length c1):=(G2.cell (p:=⟨b,o+i*7+5,none⟩) hbb).trans (hat.nth 5 rfl)
   go_wp2_with fail
   refine(hM1 _ (i_ hlt) _ _ _ _ (hV1.below G2) (by omega) (by omega)).mono ?_;rintro e w3 ⟨rfl,hb3⟩;have G3:Below w.heap.size w w3:=G2.trans (hb3.mono G2.size);clear hb3 q5;have q6:w3.cell? ⟨b,o+i*7+6,none⟩=some (.slice A2 l[i].rows.length c2):=(G3.cell (p:=⟨b,o+i*7+6,none⟩) hbb).trans (hat.nth 6 rfl)
   go_wp2_with fail
   refine(hM2 _ (i_ hlt) _ _ _ _ (hV2.below G3) (by omega) (by omega)).mono ?_;rintro e w4 ⟨rfl,hb4⟩;have G4:Below w.heap.size w w4:=G3.trans (hb4.mono G3.size);clear hb4 q6
   go_wp2_with fail
   go_roundw
   case rel=>exact⟨i+1,K+1+1+1+1+(D.cnts (l[i].list.map GVal.toD):Int)+(D.cnts (l[i].cols.map ls):Int)+(D.cnts (l[i].rows.map GRow.toD):Int),by omega,by go_num,rfl,by rw[hcn'.out];have:=hK'.out;push_cast;omega,G4⟩
   case measure=>(simp[intOf]<;>omega)
  ·have hf:=g_ (show i=l.length by omega);have hK':=g_ hK;clear hK
   go_wp2_with fail
   go_ret
   have e1:=hf.out;have e2:=hK'.out;rw[k_ (by rw[a_];omega)]at e2;exact⟨gW e2,hb⟩
theorem GVal.MV :∀(n:Nat) (x:GVal),SizeOf.sizeOf x≤n→bW Tryz.prog 38 (x.list.map GVal.toD)
 |0,x,h=>by cases x;simp at h
 |n+1,x,h=>vO _ (fun y hy=>GVal.MV n y (by have:=GVal.lt_of_mem hy;omega)) (fun y _=>oU _) (fun y _=>wR _)
theorem Cb(l:List GVal):bW Tryz.prog 38 (l.map GVal.toD):=vO l (fun y _=>GVal.MV _ y (m_ _)) (fun y _=>oU _) (fun y _=>wR _)
theorem Bh(l:List GBind)(hM0:∀x∈l,bW Tryz.prog 38 (x.value.list.map GVal.toD))(hM1:∀x∈l,bW Tryz.prog 39 (x.value.cols.map ls))(hM2:∀x∈l,bW Tryz.prog 40 (x.value.rows.map GRow.toD)):bW Tryz.prog 17 (l.map GBind.toD):=by
 intro w fp v k hS hk0 hk1;obtain⟨A,c,rfl,hl,hc⟩:=hS.form;rw[D.bJ,a_]at hl hS⊢;have hm:l.length≤9223372036854775807:=by unfold maxLen at hc;omega
 clear hl hc
 go_enter Tryz.func17,Tryz.ntmps17
 go_wp2_with fail
 go_loopw [1,5] (fun kv iv wr=>∃(i:Nat) (K:Int),i≤l.length∧iv= .int .i64 i∧kv= .int .i64 K∧K=k+D.cnts ((l.map GBind.toD).take i)∧Below w.heap.size w wr) (fun _ iv _=>l.length - (intOf iv).toNat)
 case atStart=>exact⟨0,k,by omega,rfl,rfl,by simp[D.fD],n_ _ _⟩
 case round=>
  obtain⟨i,K,hi,rfl,rfl,hK,hb⟩:=hrel;by_cases hlt:i<l.length
  ·have hi':i<(l.map GBind.toD).length:=by rw[a_];exact hlt
   have hcn:=D.fK (l.map GBind.toD) hi';have hle:=D.dG (l.map GBind.toD) (i+1);rw[e_,GBind.kU]at hcn;have hk2:0≤K:=by omega
   have hk3:K+5+(D.cnts (l[i].value.list.map GVal.toD):Int)+(D.cnts (l[i].value.cols.map ls):Int)+(D.cnts (l[i].value.rows.map GRow.toD):Int)≤4611686018427387904:=by omega
   have hK':=g_ hK;have hcn':=g_ hcn;obtain⟨b,o,fi,ci,rfl,hbb,hbf,hri,hfi,hat⟩:=hS.elem (s:=8) (fun d hd=>jL GBind.szs k (l.map GBind.toD).length d (by rw[gQ _ _ (m_ _)];exact hd)) (wC (l.map GBind.toD) k hi');rw[e_]at hri;clear hK hcn hle;obtain⟨a0,a1,a2,a3,a4,a5,a6,a7,v0,v1,v2,g0,g1,g2,e0,e1,e2,e3,e4,e5,e6,e7,rfl,rfl,hV0,hV1,hV2⟩:=GBind.sU hri;have d0:K=a0:=by have:=hK'.out;omega
   have d1:a1=K+1:=by have:=hK'.out;push_cast at e1;omega
   have d2:a2=K+1+1:=by have:=hK'.out;push_cast at e2;omega
   have d3:a3=K+1+1+1:=by have:=hK'.out;push_cast at e3;omega
   have d4:a4=K+1+1+1+1:=by have:=hK'.out;push_cast at e4;omega
   have d5:a5=K+1+1+1+1+1:=by have:=hK'.out;push_cast at e5;omega
   have d6:a6=K+1+1+1+1+1+(D.cnts (l[i].value.list.map GVal.toD):Int):=by have:=hK'.out;push_cast at e6;omega
   have d7:a7=K+1+1+1+1+1+(D.cnts (l[i].value.list.map GVal.toD):Int)+(D.cnts (l[i].value.cols.map ls):Int):=by have:=hK'.out;push_cast at e7;omega
   clear e0 e1 e2 e3 e4 e5 e6 e7;subst d0 d1 d2 d3 d4 d5 d6 d7;obtain⟨A0,c0,rfl,hqa,hqb⟩:=hV0.form;simp only[D.bJ,a_]at hqa hV0 hat hri;clear hqa hqb;obtain⟨A1,c1,rfl,hqa,hqb⟩:=hV1.form;simp only[D.bJ,a_]at hqa hV1 hat hri;clear hqa hqb;obtain⟨A2,c2,rfl,hqa,hqb⟩:=hV2.form;simp only[D.bJ,a_]at hqa hV2 hat hri;clear hqa hqb;clear hri;have q0:wr.cell? ⟨b,o+i*8,none⟩=some (.string (fF (K))):=(hb.cell (p:=⟨b,o+i*8,none⟩) hbb).trans (hat.head)
   go_wp2_with fail
   have hbp:b<wr.heap.size:=b_ hbb hb.size
   go_region_held3 (fun w'=>w'.cell? ⟨b,o+i*8,none⟩=some (.string (fF (K)))) (go_keep)
    ((go_at_call 34;refine(dV _ _ (by omega)).mono ?_;rintro e w1 ⟨rfl,hb1⟩;have L1:Below wr.heap.size wr w1:=(n_ _ _).drew.trans hb1;have hc1:∀off,w1.cell? ⟨b,off,none⟩=wr.cell? ⟨b,off,none⟩:=fun off=>L1.cell (p:=⟨b,off,none⟩) hbp))
   have G1:Below w.heap.size w w1:=hb.trans (L1.mono hb.size);clear hb1 L1 hc1 hbp q0;have q1:w1.cell? ⟨b,o+i*8+1,none⟩=some (.int .i64 (K+1)):=(G1.cell (p:=⟨b,o+i*8+1,none⟩) hbb).trans (hat.nth 1 rfl);have q2:w1.cell? ⟨b,o+i*8+2,none⟩=some (.int .i64 (K+1+1)):=(G1.cell (p:=⟨b,o+i*8+2,none⟩) hbb).trans (hat.nth 2 rfl);have q3:w1.cell? ⟨b,o+i*8+3,none⟩=some (.int .i64 (K+1+1+1)):=(G1.cell (p:=⟨b,o+i*8+3,none⟩) hbb).trans (hat.nth 3 rfl);have q4:w1.cell? ⟨b,o+i*8+4,none⟩=some (.string (fF (K+1+1+1+1))):=(G1.cell (p:=⟨b,o+i*8+4,none⟩) hbb).trans (hat.nth 4 rfl)
   go_wp2_with fail
   have hbp:b<w1.heap.size:=b_ hbb G1.size
   go_region_held3 (fun w'=>w'.cell? ⟨b,o+i*8+4,none⟩=some (.string (fF (K+1+1+1+1)))) (go_keep)
    ((go_at_call 34;refine(dV _ _ (by omega)).mono ?_;rintro e w2 ⟨rfl,hb2⟩;have L2:Below w1.heap.size w1 w2:=(n_ _ _).drew.trans hb2;have hc2:∀off,w2.cell? ⟨b,off,none⟩=w1.cell? ⟨b,off,none⟩:=fun off=>L2.cell (p:=⟨b,off,none⟩) hbp))
   have G2:Below w.heap.size w w2:=G1.trans (L2.mono G1.size);clear hb2 L2 hc2 hbp q1 q2 q3 q4;have q5:w2.cell? ⟨b,o+i*8+5,none⟩=some (.slice A0 l[i].value.list.length c0):=(G2.cell (p:=⟨b,o+i*8+5,none⟩) hbb).trans (hat.nth 5 rfl)
   go_wp2_with fail
   refine(hM0 _ (i_ hlt) _ _ _ _ (hV0.below G2) (by omega) (by omega)).mono ?_;rintro e w3 ⟨rfl,hb3⟩;have G3:Below w.heap.size w w3:=G2.trans (hb3.mono G2.size);clear hb3 q5;have q6:w3.cell? ⟨b,o+i*8+6,none⟩=some (.slice A1 l[i].value.cols.length c1):=(G3.cell (p:=⟨b,o+i*8+6,none⟩) hbb).trans (hat.nth 6 rfl)
   go_wp2_with fail
   refine(hM1 _ (i_ hlt) _ _ _ _ (hV1.below G3) (by omega) (by omega)).mono ?_;rintro e w4 ⟨rfl,hb4⟩;have G4:Below w.heap.size w w4:=G3.trans (hb4.mono G3.size);clear hb4 q6;have q7:w4.cell? ⟨b,o+i*8+7,none⟩=some (.slice A2 l[i].value.rows.length c2):=(G4.cell (p:=⟨b,o+i*8+7,none⟩) hbb).trans (hat.nth 7 rfl)
   go_wp2_with fail
   refine(hM2 _ (i_ hlt) _ _ _ _ (hV2.below G4) (by omega) (by omega)).mono ?_;rintro e w5 ⟨rfl,hb5⟩;have G5:Below w.heap.size w w5:=G4.trans (hb5.mono G4.size);clear hb5 q7
   go_wp2_with fail
   go_roundw
   case rel=>exact⟨i+1,K+1+1+1+1+1+(D.cnts (l[i].value.list.map GVal.toD):Int)+(D.cnts (l[i].value.cols.map ls):Int)+(D.cnts (l[i].value.rows.map GRow.toD):Int),by omega,by go_num,rfl,by rw[hcn'.out];have:=hK'.out;push_cast;omega,G5⟩
   case measure=>(simp[intOf]<;>omega)
  ·have hf:=g_ (show i=l.length by omega);have hK':=g_ hK;clear hK
   go_wp2_with fail
   go_ret
   have e1:=hf.out;have e2:=hK'.out;rw[k_ (by rw[a_];omega)]at e2;exact⟨gW e2,hb⟩
theorem xI(l:List GBind):bW Tryz.prog 17 (l.map GBind.toD):=Bh l (fun y _=>Cb _) (fun y _=>oU _) (fun y _=>wR _)
theorem GVal.Yj(x:GVal)(hM0:aX Tryz.prog 15 (x.list.map GVal.toD))(hM1:aX Tryz.prog 36 (x.cols.map ls))(hM2:aX Tryz.prog 37 (x.rows.map GRow.toD)):IZ Tryz.prog 21 x.toD:=by
 intro w fp cs k hR hF hk0 hk1;rw[GVal.oQ]at hk1;have hk2:k+(D.cnts (x.list.map GVal.toD):Int)+(D.cnts (x.cols.map ls):Int)+(D.cnts (x.rows.map GRow.toD):Int)≤4611686018427387904:=by push_cast at hk1;omega
 clear hk1;obtain⟨v0,v1,v2,g0,g1,g2,rfl,rfl,hV0,hV1,hV2⟩:=GVal.opened.1 hR;obtain⟨A0,c0,rfl,hqa,hqb⟩:=hV0.au;clear hqa hqb;obtain⟨A1,c1,rfl,hqa,hqb⟩:=hV1.au;clear hqa hqb;obtain⟨A2,c2,rfl,hqa,hqb⟩:=hV2.au;clear hqa hqb;have hfn:=hF.1;have nN1:=(c_.1 hfn).2.1;have nd0:=(c_.1 hfn).1;have D0_1:∀x∈g1,x∉g0:=fun x hx hy=>(c_.1 hfn).2.2 x hy x (by simp[hx]) rfl
 have D1_0:∀x∈g0,x∉g1:=fun x hx hy=>D0_1 x hy hx
 have D0_2:∀x∈g2,x∉g0:=fun x hx hy=>(c_.1 hfn).2.2 x hy x (by simp[hx]) rfl
 have D2_0:∀x∈g0,x∉g2:=fun x hx hy=>D0_2 x hy hx
 have nN2:=(c_.1 nN1).2.1;have nd1:=(c_.1 nN1).1;have D1_2:∀x∈g2,x∉g1:=fun x hx hy=>(c_.1 nN1).2.2 x hy x (by simp[hx]) rfl
 have D2_1:∀x∈g1,x∉g2:=fun x hx hy=>D1_2 x hy hx
 have nd2:=nN2;have Fr0:aV w 0 g0:=hF.sub nd0 (fun y hy=>by first|exact hy|simp[hy]);have lt0:∀y∈g0,y<w.heap.size:=R.lt hV0;have hs0:w.heap.size∉g0:=fun hy=>s_ _ (lt0 _ hy)
 have Fr1:aV w 0 g1:=hF.sub nd1 (fun y hy=>by first|exact hy|simp[hy]);have lt1:∀y∈g1,y<w.heap.size:=R.lt hV1;have hs1:w.heap.size∉g1:=fun hy=>s_ _ (lt1 _ hy)
 have Fr2:aV w 0 g2:=hF.sub nd2 (fun y hy=>by first|exact hy|simp[hy]);have lt2:∀y∈g2,y<w.heap.size:=R.lt hV2;have hs2:w.heap.size∉g2:=fun hy=>s_ _ (lt2 _ hy)
 clear hR
 go_enter Tryz.func21,Tryz.ntmps21
 go_wp2_with fail
 refine(hM0 _ _ _ _ (hV0.below ((n_ _ _).alloc (m_ _) _)) (Fr0.below lt0 ((n_ _ _).alloc (m_ _) _)) (by omega) (by first|omega|(push_cast;omega))).mono ?_;rintro e w1 ⟨rfl,hS1,hb1⟩;obtain⟨r1,hz1⟩:Row w1 w.heap.size _ _∧w.heap.size+1≤w1.heap.size:=⟨(Row.new w _ _).touch hb1 hs0,t_ (by simp) hb1.size⟩
 have T1:Touch ([]++g0) w w1:=(Touch.of_below ((n_ _ _).alloc (m_ _) _)).trans (hb1.mono fun y hy=>d_ _ hy);have kk1:=r1.cell;clear hb1
 go_wp2_with fail
 refine(hM1 _ _ _ _ ((hV1.touch T1 (fun y hy=>bn (bD) (D0_1 y hy)))) (Fr1.touch lt1 T1) (by omega) (by first|omega|(push_cast;omega))).mono ?_;rintro e w2 ⟨rfl,hS2,hb2⟩;have r2:=r1.touch hb2 hs1;have T2:Touch (([]++g0)++g1) w w2:=(T1.mono fun y hy=>f_ _ hy).trans (hb2.mono fun y hy=>d_ _ hy);have hS1x:=hS1.touch hb2 (fun y hy=>D1_0 y hy);have kk2:=r2.cell;clear hb2 kk1
 go_wp2_with fail
 refine(hM2 _ _ _ _ ((hV2.touch T2 (fun y hy=>bn (bn (bD) (D0_2 y hy)) (D1_2 y hy)))) (Fr2.touch lt2 T2) (by omega) (by first|omega|(push_cast;omega))).mono ?_;rintro e w3 ⟨rfl,hS3,hb3⟩;have r3:=r2.touch hb3 hs2;have T3:Touch ((([]++g0)++g1)++g2) w w3:=(T2.mono fun y hy=>f_ _ hy).trans (hb3.mono fun y hy=>d_ _ hy);have hS1xx:=hS1x.touch hb3 (fun y hy=>D2_0 y hy);have hS2x:=hS2.touch hb3 (fun y hy=>D2_1 y hy);have kk3:=r3.cell;clear hb3 kk2
 go_wp2_with fail
 go_ret
 refine⟨gW (by have hq:=GVal.oQ x;omega),GVal.FQ (by push_cast;first|rfl|omega) (by push_cast;first|rfl|omega) (by push_cast;first|rfl|omega) hS1xx hS2x hS3,T3.mono (fun y hy=> ?_)⟩;simp only[o_,p_,false_or]at hy⊢;rcases hy with(h|h)|h<;>simp[h]
theorem GVal.mark(x:GVal):IZ Tryz.prog 21 x.toD:=GVal.Yj x (qH _) (mY _) (rX _)
theorem GVal.Yp(x:GVal)(hM0:bW Tryz.prog 38 (x.list.map GVal.toD))(hM1:bW Tryz.prog 39 (x.cols.map ls))(hM2:bW Tryz.prog 40 (x.rows.map GRow.toD)):I4 Tryz.prog 22 x.toD:=by
 intro w fp cs k hR hk0 hk1;rw[GVal.oQ]at hk1;have hk2:k+(D.cnts (x.list.map GVal.toD):Int)+(D.cnts (x.cols.map ls):Int)+(D.cnts (x.rows.map GRow.toD):Int)≤4611686018427387904:=by push_cast at hk1;omega
 clear hk1;obtain⟨a4,a5,a6,v0,v1,v2,g0,g1,g2,e0,e1,e2,rfl,rfl,hV0,hV1,hV2⟩:=GVal.zC hR;have d0:k=a4:=by push_cast at e0;omega
 have d1:a5=k+(D.cnts (x.list.map GVal.toD):Int):=by push_cast at e1;omega
 have d2:a6=k+(D.cnts (x.list.map GVal.toD):Int)+(D.cnts (x.cols.map ls):Int):=by push_cast at e2;omega
 clear e0 e1 e2;subst d0 d1 d2;obtain⟨A0,c0,rfl,hqa,hqb⟩:=hV0.form;simp only[D.bJ,a_]at hqa hV0 hR⊢;clear hqa hqb;obtain⟨A1,c1,rfl,hqa,hqb⟩:=hV1.form;simp only[D.bJ,a_]at hqa hV1 hR⊢;clear hqa hqb;obtain⟨A2,c2,rfl,hqa,hqb⟩:=hV2.form;simp only[D.bJ,a_]at hqa hV2 hR⊢;clear hqa hqb;clear hR
 go_enter Tryz.func22,Tryz.ntmps22
 go_wp2_with fail
 refine(hM0 _ _ _ _ (hV0.below ((n_ _ _).alloc (m_ _) _)) (by omega) (by first|omega|(push_cast;omega))).mono ?_;rintro e w1 ⟨rfl,hb1⟩;obtain⟨r1,hz1,G1⟩:=Qc hb1;have kk1:=r1.cell;clear hb1
 go_wp2_with fail
 refine(hM1 _ _ _ _ (hV1.below G1) (by omega) (by first|omega|(push_cast;omega))).mono ?_;rintro e w2 ⟨rfl,hb2⟩;have r2:=r1.below hb2;have hz2:w.heap.size+1≤w2.heap.size:=t_ hz1 hb2.size;have G2:Below w.heap.size w w2:=G1.trans (hb2.mono (by omega));have kk2:=r2.cell;clear hb2 kk1
 go_wp2_with fail
 refine(hM2 _ _ _ _ (hV2.below G2) (by omega) (by first|omega|(push_cast;omega))).mono ?_;rintro e w3 ⟨rfl,hb3⟩;have r3:=r2.below hb3;have hz3:w.heap.size+1≤w3.heap.size:=t_ hz2 hb3.size;have G3:Below w.heap.size w w3:=G2.trans (hb3.mono (by omega));have kk3:=r3.cell;clear hb3 kk2
 go_wp2_with fail
 go_ret
 exact⟨gW (by have hq:=GVal.oQ x;omega),G3⟩
theorem GVal.held(x:GVal):I4 Tryz.prog 22 x.toD:=GVal.Yp x (Cb _) (oU _) (wR _)
section
variable{w w':World}{d:D}{f:List Nat}{cs:List Value}{o:Obj}{B b:Nat}
end
end Go.Proofs.YtagaefgglphkgaaGreat
