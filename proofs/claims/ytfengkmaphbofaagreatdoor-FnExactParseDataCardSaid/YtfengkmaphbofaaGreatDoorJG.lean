/-
  Texts joined: Marks Box.
-/
import Derived.Test.YtfengkmaphbofaaGreatDoorJA
import Derived.Test.YtfengkmaphbofaaGreatDoorJE
set_option maxHeartbeats 4000000
set_option maxRecDepth 20000
set_option linter.unusedSimpArgs false
set_option linter.unusedVariables false
namespace Go.Proofs.YtfengkmaphbofaaGreatDoor
open Go.RowKit
open List renaming length_map→a_,getElem_map→b_,nodup_append→c_,mem_append_right→f_,take_of_length_le→g_,mem_append_left→h_,cons_append→i_,getElem_mem→j_,nil_append→k_,mem_append→n_,append_nil→o_,not_mem_nil→p_
open Lib renaming hid→d_
open Nat renaming lt_of_lt_of_le→e_,le_refl→l_,mul_one→q_,lt_irrefl→r_,le_trans→s_
open Below renaming refl→m_
theorem jg{x:Nat}:x∉([]:List Nat):=by simp
theorem jA{x:Nat}{a b:List Nat}(h:x∉a)(k:x∉b):x∉a++b:=fun hm=>by
 rcases n_.1 hm with h'|h'
 ·exact h h'
 ·exact k h'
theorem FH(l:List Int):gK Tryz.prog 86 (l.map li):=by
 intro w fp v k hS hF hk0 hk1;obtain⟨A,c,rfl,hl,hc⟩:=hS.fK;have hm:l.length≤9223372036854775807:=by unfold maxLen at hc;omega
 clear hl hc
 go_enter Tryz.func86,Tryz.ntmps86
 go_wp2_with fail
 go_loopw [1,5] (fun kv iv wr=>∃(i:Nat) (K:Int),i≤l.length∧iv= .int .i64 i∧kv= .int .i64 K∧K=k+D.cnts ((l.map li).take i)∧Sl wr (part (l.map li) k i) fp (.slice A l.length c)∧Touch fp w wr) (fun _ iv _=>l.length - (intOf iv).toNat)
 case atStart=>exact⟨0,k,by omega,rfl,rfl,by simp[D.jD],by rw[pJ];exact hS,Touch.refl _ _⟩
 case round=>
  obtain⟨i,K,hi,rfl,rfl,hK,hSi,hT⟩:=hrel;by_cases hlt:i<l.length
  ·have hi':i<(l.map li).length:=by rw[a_];exact hlt
   have hcn:=D.jM (l.map li) hi';have hle:=D.iH (l.map li) (i+1);have hc1:((l.map li)[i]).cnt=1:=by rw[b_];rfl
   rw[hc1]at hcn;have hk2:0≤K:=by omega
   have hk3:K+1≤4611686018427387904:=by omega
   have hK':=d_ hK;have hcn':=d_ hcn;have hFr:=hF.touch (R.lt hS) hT;obtain⟨b,o,fi,ci,rfl,hbb,hbf,hri,hfi,hbn,hfn,hat,hback⟩:=hSi.focus hF.1 (lU EJ k i) (qW (l.map li) k hi')
   rw[b_]at hri;clear hK hcn hle;obtain⟨rfl,rfl⟩:=hri;simp only[q_]at hat hback;have z0:∀off,wr.frozen? ⟨b,off,none⟩=false:=fun off=>(hFr.2 b hbf).2 off
   have hI0:Inr b (o+i) (o+i+1) [] wr wr:=Inr.refl _ _ _ _ _;have hA0:=hat;clear hat;have q0:=hA0.head
   go_wp2_with fail
   have hIe:=(hI0.setCell (off:=o+i) (by omega) (by omega) (.int .i64 (K)))
   have hAe:=(hA0.set (j:=0) (by simp) (.int .i64 (K)))
   have hIf:=hIe
   go_roundw
   case rel=>
    refine⟨i+1,K+1,by omega,by go_num,rfl, ?_, ?_,hT.trans (hIf.uV hbf hfi)⟩
    ·rw[hcn'.out];have:=hK'.out;push_cast;omega
    ·rw[← nJ _ k hi',b_];exact hback _ (.leaf (.int .i64 (k+D.cnts ((l.map li).take i)))) _ rfl ⟨rfl,rfl⟩ (by have e:=hK'.out;subst e;exact hAe) hIf
   case measure=>(simp[intOf]<;>omega)
  ·have hf:=d_ (show i=l.length by omega);have hK':=d_ hK;clear hK
   go_wp2_with fail
   go_ret
   have e1:=hf.out;have e2:=hK'.out;rw[g_ (by rw[a_];omega)]at e2;rw[jX _ _ (by rw[a_];omega)]at hSi;exact⟨fU e2,hSi,hT⟩
theorem NQ(l:List Int):gK Tryz.prog 86 (l.map li):=FH l
theorem zf(l:List ByteArray):gK Tryz.prog 43 (l.map ls):=by
 intro w fp v k hS hF hk0 hk1;obtain⟨A,c,rfl,hl,hc⟩:=hS.fK;have hm:l.length≤9223372036854775807:=by unfold maxLen at hc;omega
 clear hl hc
 go_enter Tryz.func43,Tryz.ntmps43
 go_wp2_with fail
 go_loopw [1,5] (fun kv iv wr=>∃(i:Nat) (K:Int),i≤l.length∧iv= .int .i64 i∧kv= .int .i64 K∧K=k+D.cnts ((l.map ls).take i)∧Sl wr (part (l.map ls) k i) fp (.slice A l.length c)∧Touch fp w wr) (fun _ iv _=>l.length - (intOf iv).toNat)
 case atStart=>exact⟨0,k,by omega,rfl,rfl,by simp[D.jD],by rw[pJ];exact hS,Touch.refl _ _⟩
 case round=>
  obtain⟨i,K,hi,rfl,rfl,hK,hSi,hT⟩:=hrel;by_cases hlt:i<l.length
  ·have hi':i<(l.map ls).length:=by rw[a_];exact hlt
   have hcn:=D.jM (l.map ls) hi';have hle:=D.iH (l.map ls) (i+1);have hc1:((l.map ls)[i]).cnt=1:=by rw[b_];rfl
   rw[hc1]at hcn;have hk2:0≤K:=by omega
   have hk3:K+1≤4611686018427387904:=by omega
   have hK':=d_ hK;have hcn':=d_ hcn;have hFr:=hF.touch (R.lt hS) hT;obtain⟨b,o,fi,ci,rfl,hbb,hbf,hri,hfi,hbn,hfn,hat,hback⟩:=hSi.focus hF.1 (lU uI k i) (qW (l.map ls) k hi')
   rw[b_]at hri;clear hK hcn hle;obtain⟨rfl,rfl⟩:=hri;simp only[q_]at hat hback;have z0:∀off,wr.frozen? ⟨b,off,none⟩=false:=fun off=>(hFr.2 b hbf).2 off
   have hI0:Inr b (o+i) (o+i+1) [] wr wr:=Inr.refl _ _ _ _ _;have hA0:=hat;clear hat
   go_wp2_with fail
   refine(nD _ _ (by omega)).mono ?_;rintro e w1 ⟨rfl,hb1⟩;have hbW:=hI0;have hI1:=(hI0).below hbb hb1;have hA1:=(hA0).below (e_ hbb hbW.size) hb1;have z1:∀off,w1.frozen? ⟨b,off,none⟩=false:=fun off=>(hI1.froz b off hbb).trans (hFr.2 b hbf |>.2 off)
   clear hbW hb1 z0 hA0 hI0;have q0:=hA1.head
   go_wp2_with fail
   have hIe:=(hI1.setCell (off:=o+i) (by omega) (by omega) (.string (qZ (K))))
   have hAe:=(hA1.set (j:=0) (by simp) (.string (qZ (K))))
   have hIf:=hIe
   go_roundw
   case rel=>
    refine⟨i+1,K+1,by omega,by go_num,rfl, ?_, ?_,hT.trans (hIf.uV hbf hfi)⟩
    ·rw[hcn'.out];have:=hK'.out;push_cast;omega
    ·rw[← nJ _ k hi',b_];exact hback _ (.leaf (.string (qZ (k+D.cnts ((l.map ls).take i))))) _ rfl ⟨rfl,rfl⟩ (by have e:=hK'.out;subst e;exact hAe) hIf
   case measure=>(simp[intOf]<;>omega)
  ·have hf:=d_ (show i=l.length by omega);have hK':=d_ hK;clear hK
   go_wp2_with fail
   go_ret
   have e1:=hf.out;have e2:=hK'.out;rw[g_ (by rw[a_];omega)]at e2;rw[jX _ _ (by rw[a_];omega)]at hSi;exact⟨fU e2,hSi,hT⟩
theorem qC(l:List ByteArray):gK Tryz.prog 43 (l.map ls):=zf l
theorem GOrigin.rQ(x:GOrigin):x.toD.cnt=2:=by
 simp only[GOrigin.dI,D.cnt,D.cnts,li,ls]
 try omega
theorem GOrigin.GR{w:World}{x:GOrigin}{k:Int}{a0 a1:Int}(e0:a0=k)(e1:a1=k+((1:Nat):Int)):R w (x.toD.mk k) ([]) [.int .i64 a0,.int .i64 a1]:=by
 subst e0 e1;simp only[GOrigin.dI,D.mk,D.mks,D.cnt,D.cnts,Ag,li,ls,ji,jf,iC,kH,iY,i_,k_];exact⟨_,rfl,⟨_,rfl,⟨by simp,rfl⟩⟩⟩
theorem GOrigin.Ai{w:World}{x:GOrigin}{k:Int}{fp:List Nat}{cs:List Value}(h:R w (x.toD.mk k) fp cs):∃(a0 a1:Int),a0=k∧a1=k+((1:Nat):Int)∧fp= []∧cs= [.int .i64 a0,.int .i64 a1]:=by
 simp only[GOrigin.dI,D.mk,D.mks,D.cnt,D.cnts,Ag,li,ls,ji,jf,iC,kH,iY,i_,k_]at h;obtain⟨_,rfl,⟨_,rfl,⟨rfl,rfl⟩⟩⟩:=h;exact⟨_,_,rfl,rfl,rfl,rfl⟩
theorem zi(l:List GOrigin):gK Tryz.prog 87 (l.map GOrigin.toD):=by
 intro w fp v k hS hF hk0 hk1;obtain⟨A,c,rfl,hl,hc⟩:=hS.fK;have hm:l.length≤9223372036854775807:=by unfold maxLen at hc;omega
 clear hl hc
 go_enter Tryz.func87,Tryz.ntmps87
 go_wp2_with fail
 go_loopw [1,5] (fun kv iv wr=>∃(i:Nat) (K:Int),i≤l.length∧iv= .int .i64 i∧kv= .int .i64 K∧K=k+D.cnts ((l.map GOrigin.toD).take i)∧Sl wr (part (l.map GOrigin.toD) k i) fp (.slice A l.length c)∧Touch fp w wr) (fun _ iv _=>l.length - (intOf iv).toNat)
 case atStart=>exact⟨0,k,by omega,rfl,rfl,by simp[D.jD],by rw[pJ];exact hS,Touch.refl _ _⟩
 case round=>
  obtain⟨i,K,hi,rfl,rfl,hK,hSi,hT⟩:=hrel;by_cases hlt:i<l.length
  ·have hi':i<(l.map GOrigin.toD).length:=by rw[a_];exact hlt
   have hcn:=D.jM (l.map GOrigin.toD) hi';have hle:=D.iH (l.map GOrigin.toD) (i+1);rw[b_,GOrigin.rQ]at hcn;have hk2:0≤K:=by omega
   have hk3:K+2≤4611686018427387904:=by omega
   have hK':=d_ hK;have hcn':=d_ hcn;have hFr:=hF.touch (R.lt hS) hT;obtain⟨b,o,fi,ci,rfl,hbb,hbf,hri,hfi,hbn,hfn,hat,hback⟩:=hSi.focus hF.1 (lU GOrigin.szs k i) (qW (l.map GOrigin.toD) k hi')
   rw[b_]at hri;clear hK hcn hle;obtain⟨rfl,rfl⟩:=GOrigin.opened.1 hri;have z0:∀off,wr.frozen? ⟨b,off,none⟩=false:=fun off=>(hFr.2 b hbf).2 off
   clear hri;have hI0:Inr b (o+i*2) (o+i*2+2) [] wr wr:=Inr.refl _ _ _ _ _;have hA0:=hat;clear hat;have q0:=hA0.head;have q1:=hA0.nth 1 rfl
   go_wp2_with fail
   have hIe:=((hI0.setCell (off:=o+i*2) (by omega) (by omega) (.int .i64 (K))).setCell (off:=o+i*2+1) (by omega) (by omega) (.int .i64 (K+1)))
   have hAe:=((hA0.set (j:=0) (by simp) (.int .i64 (K))).set (j:=1) (by simp) (.int .i64 (K+1)))
   have hIf:=hIe
   go_roundw
   case rel=>
    refine⟨i+1,K+1+1,by omega,by go_num,rfl, ?_, ?_,hT.trans (hIf.uV hbf hfi)⟩
    ·rw[hcn'.out];have:=hK'.out;push_cast;omega
    ·rw[← nJ _ k hi',b_];exact hback _ _ _ (by rw[D.GN];exact GOrigin.gu _) (GOrigin.GR (by have:=hK'.out;push_cast;omega) (by have:=hK'.out;push_cast;omega)) hAe hIf
   case measure=>(simp[intOf]<;>omega)
  ·have hf:=d_ (show i=l.length by omega);have hK':=d_ hK;clear hK
   go_wp2_with fail
   go_ret
   have e1:=hf.out;have e2:=hK'.out;rw[g_ (by rw[a_];omega)]at e2;rw[jX _ _ (by rw[a_];omega)]at hSi;exact⟨fU e2,hSi,hT⟩
theorem FC(l:List GOrigin):gK Tryz.prog 87 (l.map GOrigin.toD):=zi l
theorem GRow.rQ(x:GRow):x.toD.cnt=0+D.cnts (x.cells.map li)+D.cnts (x.src.map GOrigin.toD):=by
 simp only[GRow.dI,D.cnt,D.cnts,li,ls]
 try omega
theorem GRow.GR{w:World}{x:GRow}{k:Int}{a0 a1:Int}{f0 f1:List Nat}{v0 v1:Value}(e0:a0=k)(e1:a1=k+((D.cnts (x.cells.map li):Nat):Int))(s0:Sl w (D.mks (x.cells.map li) a0) f0 v0)(s1:Sl w (D.mks (x.src.map GOrigin.toD) a1) f1 v1):R w (x.toD.mk k) (f0++(f1)) [v0,v1]:=by
 subst e0 e1;simp only[GRow.dI,D.mk,D.mks,D.cnt,D.cnts,Ag,li,ls,ji,jf,iC,kH,iY,i_,k_];exact⟨_,_,_,_,rfl,rfl,s0,⟨_,_,_,_,(o_ _).symm,rfl,s1,⟨rfl,rfl⟩⟩⟩
theorem GRow.Ai{w:World}{x:GRow}{k:Int}{fp:List Nat}{cs:List Value}(h:R w (x.toD.mk k) fp cs):∃(a0 a1:Int) (v0 v1:Value) (f0 f1:List Nat),a0=k∧a1=k+((D.cnts (x.cells.map li):Nat):Int)∧fp=f0++(f1)∧cs= [v0,v1]∧Sl w (D.mks (x.cells.map li) a0) f0 v0∧Sl w (D.mks (x.src.map GOrigin.toD) a1) f1 v1:=by
 simp only[GRow.dI,D.mk,D.mks,D.cnt,D.cnts,Ag,li,ls,ji,jf,iC,kH,iY,i_,k_]at h;obtain⟨_,_,_,_,rfl,rfl,s0,⟨_,_,_,_,rfl,rfl,s1,⟨rfl,rfl⟩⟩⟩:=h;exact⟨_,_,_,_,_,_,rfl,rfl,by simp,rfl,s0,s1⟩
theorem GRow.QX{w:World}{x:GRow}{k:Int}{a0 a1:Int}{f0 f1:List Nat}{v0 v1:Value}(e0:a0=k)(e1:a1=k+((D.cnts (x.cells.map li):Nat):Int))(s0:Sl w (D.mks (x.cells.map li) a0) f0 v0)(s1:Sl w (D.mks (x.src.map GOrigin.toD) a1) f1 v1):R w (x.toD.amk k) (f0++(f1)) [v0,v1]:=by
 subst e0 e1;simp only[GRow.dI,D.amk,D.NJ,D.acnt,D.qK,li,ls,ji,jf,iC,kH,iY,i_,k_];exact⟨_,_,_,_,rfl,rfl,s0,⟨_,_,_,_,(o_ _).symm,rfl,s1,⟨rfl,rfl⟩⟩⟩
theorem GRow.LP{w:World}{x:GRow}{k:Int}{fp:List Nat}{cs:List Value}(h:R w (x.toD.amk k) fp cs):∃(a0 a1:Int) (v0 v1:Value) (f0 f1:List Nat),a0=k∧a1=k+((D.cnts (x.cells.map li):Nat):Int)∧fp=f0++(f1)∧cs= [v0,v1]∧Sl w (D.mks (x.cells.map li) a0) f0 v0∧Sl w (D.mks (x.src.map GOrigin.toD) a1) f1 v1:=by
 simp only[GRow.dI,D.amk,D.NJ,D.acnt,D.qK,li,ls,ji,jf,iC,kH,iY,i_,k_]at h;obtain⟨_,_,_,_,rfl,rfl,s0,⟨_,_,_,_,rfl,rfl,s1,⟨rfl,rfl⟩⟩⟩:=h;exact⟨_,_,_,_,_,_,rfl,rfl,by simp,rfl,s0,s1⟩
theorem GRow.wu(x:GRow):x.toD.acnt=D.cnts (x.cells.map li)+D.cnts (x.src.map GOrigin.toD):=by
 simp only[GRow.dI,D.acnt,D.qK,li,ls]
 try omega
theorem Fq(l:List GRow)(hM0:∀x∈l,gK Tryz.prog 86 (x.cells.map li))(hM1:∀x∈l,gK Tryz.prog 87 (x.src.map GOrigin.toD)):gK Tryz.prog 44 (l.map GRow.toD):=by
 intro w fp v k hS hF hk0 hk1;obtain⟨A,c,rfl,hl,hc⟩:=hS.fK;have hm:l.length≤9223372036854775807:=by unfold maxLen at hc;omega
 clear hl hc
 go_enter Tryz.func44,Tryz.ntmps44
 go_wp2_with fail
 go_loopw [1,5] (fun kv iv wr=>∃(i:Nat) (K:Int),i≤l.length∧iv= .int .i64 i∧kv= .int .i64 K∧K=k+D.cnts ((l.map GRow.toD).take i)∧Sl wr (part (l.map GRow.toD) k i) fp (.slice A l.length c)∧Touch fp w wr) (fun _ iv _=>l.length - (intOf iv).toNat)
 case atStart=>exact⟨0,k,by omega,rfl,rfl,by simp[D.jD],by rw[pJ];exact hS,Touch.refl _ _⟩
 case round=>
  obtain⟨i,K,hi,rfl,rfl,hK,hSi,hT⟩:=hrel;by_cases hlt:i<l.length
  ·have hi':i<(l.map GRow.toD).length:=by rw[a_];exact hlt
   have hcn:=D.jM (l.map GRow.toD) hi';have hle:=D.iH (l.map GRow.toD) (i+1);rw[b_,GRow.rQ]at hcn;have hk2:0≤K:=by omega
   have hk3:K+0+(D.cnts (l[i].cells.map li):Int)+(D.cnts (l[i].src.map GOrigin.toD):Int)≤4611686018427387904:=by omega
   have hK':=d_ hK;have hcn':=d_ hcn;have hFr:=hF.touch (R.lt hS) hT;obtain⟨b,o,fi,ci,rfl,hbb,hbf,hri,hfi,hbn,hfn,hat,hback⟩:=hSi.focus hF.1 (lU GRow.szs k i) (qW (l.map GRow.toD) k hi')
   rw[b_]at hri;clear hK hcn hle;obtain⟨v0,v1,g0,g1,rfl,rfl,hV0,hV1⟩:=GRow.opened.1 hri;obtain⟨A0,c0,rfl,hqa,hqb⟩:=hV0.fK;clear hqa hqb;obtain⟨A1,c1,rfl,hqa,hqb⟩:=hV1.fK;clear hqa hqb;have nN1:=(c_.1 hfn).2.1;have nd0:=(c_.1 hfn).1;have D0_1:∀x∈g1,x∉g0:=fun x hx hy=>(c_.1 hfn).2.2 x hy x (by simp[hx]) rfl
   have D1_0:∀x∈g0,x∉g1:=fun x hx hy=>D0_1 x hy hx
   have nd1:=nN1;have bn0:b∉g0:=fun hx=>hbn (by first|exact hx|simp[hx])
   have Fr0:gV wr 0 g0:=hFr.sub nd0 (fun x hx=>hfi x (by first|exact hx|simp[hx]));have bn1:b∉g1:=fun hx=>hbn (by first|exact hx|simp[hx])
   have Fr1:gV wr 0 g1:=hFr.sub nd1 (fun x hx=>hfi x (by first|exact hx|simp[hx]));have z0:∀off,wr.frozen? ⟨b,off,none⟩=false:=fun off=>(hFr.2 b hbf).2 off
   clear hri;have hI0:Inr b (o+i*2) (o+i*2+2) [] wr wr:=Inr.refl _ _ _ _ _;have hA0:=hat;clear hat;have q0:=hA0.head
   go_wp2_with fail
   have hbW:=hI0;refine(hM0 _ (j_ hlt) _ g0 _ _ (hV0.inr hbW bn0 (fun x hx=>jg)) (Fr0.inr (R.lt hV0) hbW) (by omega) (by omega)).mono ?_;rintro e w1 ⟨rfl,hS0,hb1⟩;have hI1:=((hI0).mono (F':= []++g0) (fun x hx=>h_ _ hx)).touch hbb hb1 (fun x hx=>f_ _ hx) bn0;have hA1:=(hA0).touch (e_ hbb hbW.size) hb1 bn0;have hbb1:b<w1.heap.size:=e_ hbb hI1.size;have hJ0_1:Inr b (o+i*2) (o+i*2+2) [] w1 w1:=Inr.refl _ _ _ _ _;have z1:∀off,w1.frozen? ⟨b,off,none⟩=false:=fun off=>(hI1.froz b off hbb).trans (hFr.2 b hbf |>.2 off)
   clear hbW hb1 z0 hA0 hI0 q0;have q1:=hA1.nth 1 rfl
   go_wp2_with fail
   have hbW:=hI1;refine(hM1 _ (j_ hlt) _ g1 _ _ (hV1.inr hbW bn1 (fun x hx=>jA (jg) (D0_1 x hx))) (Fr1.inr (R.lt hV1) hbW) (by omega) (by omega)).mono ?_;rintro e w2 ⟨rfl,hS1,hb2⟩;have hI2:=((hI1).mono (F':=([]++g0)++g1) (fun x hx=>h_ _ hx)).touch hbb hb2 (fun x hx=>f_ _ hx) bn1;have hJ0_2:=((hJ0_1).mono (F':= []++g1) (fun x hx=>h_ _ hx)).touch hbb1 hb2 (fun x hx=>f_ _ hx) bn1;have hA2:=(hA1).touch (e_ hbb hbW.size) hb2 bn1;have hbb2:b<w2.heap.size:=e_ hbb hI2.size;have hJ1_2:Inr b (o+i*2) (o+i*2+2) [] w2 w2:=Inr.refl _ _ _ _ _;have z2:∀off,w2.frozen? ⟨b,off,none⟩=false:=fun off=>(hI2.froz b off hbb).trans (hFr.2 b hbf |>.2 off)
   clear hbW hb2 z1 hA1 hI1 hJ0_1 q1
   go_wp2_with fail
   have hIe:=hI2;have hAe:=hA2;have hSe0:=hS0.inr hJ0_2 bn0 (fun x hx=>jA (jg) (D1_0 x hx));have hSe1:=hS1.inr hJ1_2 bn1 (fun x hx=>jg);have hIf:=hIe.mono (F':=g0++(g1)) (fun x hx=>by
    simp only[n_,p_,false_or]at hx;rcases hx with h|h<;>simp[h])
   go_roundw
   case rel=>
    refine⟨i+1,K+(D.cnts (l[i].cells.map li):Int)+(D.cnts (l[i].src.map GOrigin.toD):Int),by omega,by go_num,rfl, ?_, ?_,hT.trans (hIf.uV hbf hfi)⟩
    ·rw[hcn'.out];have:=hK'.out;push_cast;omega
    ·rw[← nJ _ k hi',b_];exact hback _ _ _ (by rw[D.GN];exact GRow.gu _) (GRow.GR (by have:=hK'.out;push_cast;omega) (by have:=hK'.out;push_cast;omega) hSe0 hSe1) hAe hIf
   case measure=>(simp[intOf]<;>omega)
  ·have hf:=d_ (show i=l.length by omega);have hK':=d_ hK;clear hK
   go_wp2_with fail
   go_ret
   have e1:=hf.out;have e2:=hK'.out;rw[g_ (by rw[a_];omega)]at e2;rw[jX _ _ (by rw[a_];omega)]at hSi;exact⟨fU e2,hSi,hT⟩
theorem xI(l:List GRow):gK Tryz.prog 44 (l.map GRow.toD):=Fq l (fun y _=>NQ _) (fun y _=>FC _)
theorem GVal.rQ(x:GVal):x.toD.cnt=4+D.cnts (x.list.map GVal.toD)+D.cnts (x.cols.map ls)+D.cnts (x.rows.map GRow.toD):=by
 simp only[GVal.dI,D.cnt,D.cnts,li,ls]
 try omega
theorem GVal.GR{w:World}{x:GVal}{k:Int}{a0 a1 a2 a3 a4 a5 a6:Int}{f0 f1 f2:List Nat}{v0 v1 v2:Value}(e0:a0=k)(e1:a1=k+((1:Nat):Int))(e2:a2=k+((1:Nat):Int)+((1:Nat):Int))(e3:a3=k+((1:Nat):Int)+((1:Nat):Int)+((1:Nat):Int))(e4:a4=k+((1:Nat):Int)+((1:Nat):Int)+((1:Nat):Int)+((1:Nat):Int))(e5:a5=k+((1:Nat):Int)+((1:Nat):Int)+((1:Nat):Int)+((1:Nat):Int)+((D.cnts (x.list.map GVal.toD):Nat):Int))(e6:a6=k+((1:Nat):Int)+((1:Nat):Int)+((1:Nat):Int)+((1:Nat):Int)+((D.cnts (x.list.map GVal.toD):Nat):Int)+((D.cnts (x.cols.map ls):Nat):Int))(s0:Sl w (D.mks (x.list.map GVal.toD) a4) f0 v0)(s1:Sl w (D.mks (x.cols.map ls) a5) f1 v1)(s2:Sl w (D.mks (x.rows.map GRow.toD) a6) f2 v2):R w (x.toD.mk k) (f0++(f1++(f2))) [.int .i64 a0,.int .i64 a1,.int .i64 a2,.string (qZ a3),v0,v1,v2]:=by
 subst e0 e1 e2 e3 e4 e5 e6;simp only[GVal.dI,D.mk,D.mks,D.cnt,D.cnts,Ag,li,ls,ji,jf,iC,kH,iY,i_,k_];exact⟨_,rfl,⟨_,rfl,⟨_,rfl,⟨_,rfl,⟨_,_,_,_,rfl,rfl,s0,⟨_,_,_,_,rfl,rfl,s1,⟨_,_,_,_,(o_ _).symm,rfl,s2,⟨rfl,rfl⟩⟩⟩⟩⟩⟩⟩⟩
theorem GVal.Ai{w:World}{x:GVal}{k:Int}{fp:List Nat}{cs:List Value}(h:R w (x.toD.mk k) fp cs):∃(a0 a1 a2 a3 a4 a5 a6:Int) (v0 v1 v2:Value) (f0 f1 f2:List Nat),a0=k∧a1=k+((1:Nat):Int)∧a2=k+((1:Nat):Int)+((1:Nat):Int)∧a3=k+((1:Nat):Int)+((1:Nat):Int)+((1:Nat):Int)∧a4=k+((1:Nat):Int)+((1:Nat):Int)+((1:Nat):Int)+((1:Nat):Int)∧a5=k+((1:Nat):Int)+((1:Nat):Int)+((1:Nat):Int)+((1:Nat):Int)+((D.cnts (x.list.map GVal.toD):Nat):Int)∧a6=k+((1:Nat):Int)+((1:Nat):Int)+((1:Nat):Int)+((1:Nat):Int)+((D.cnts (x.list.map GVal.toD):Nat):Int)+((D.cnts (x.cols.map ls):Nat):Int)∧fp=f0++(f1++(f2))∧cs= [.int .i64 a0,.int .i64 a1,.int .i64 a2,.string (qZ a3),v0,v1,v2]∧Sl w (D.mks (x.list.map GVal.toD) a4) f0 v0∧Sl w (D.mks (x.cols.map ls) a5) f1 v1∧Sl w (D.mks (x.rows.map GRow.toD) a6) f2 v2:=by
 simp only[GVal.dI,D.mk,D.mks,D.cnt,D.cnts,Ag,li,ls,ji,jf,iC,kH,iY,i_,k_]at h;obtain⟨_,rfl,⟨_,rfl,⟨_,rfl,⟨_,rfl,⟨_,_,_,_,rfl,rfl,s0,⟨_,_,_,_,rfl,rfl,s1,⟨_,_,_,_,rfl,rfl,s2,⟨rfl,rfl⟩⟩⟩⟩⟩⟩⟩⟩:=h;exact⟨_,_,_,_,_,_,_,_,_,_,_,_,_,rfl,rfl,rfl,rfl,rfl,rfl,rfl,by simp,rfl,s0,s1,s2⟩
theorem GVal.QX{w:World}{x:GVal}{k:Int}{a4 a5 a6:Int}{f0 f1 f2:List Nat}{v0 v1 v2:Value}(e4:a4=k+((0:Nat):Int)+((0:Nat):Int)+((0:Nat):Int)+((0:Nat):Int))(e5:a5=k+((0:Nat):Int)+((0:Nat):Int)+((0:Nat):Int)+((0:Nat):Int)+((D.cnts (x.list.map GVal.toD):Nat):Int))(e6:a6=k+((0:Nat):Int)+((0:Nat):Int)+((0:Nat):Int)+((0:Nat):Int)+((D.cnts (x.list.map GVal.toD):Nat):Int)+((D.cnts (x.cols.map ls):Nat):Int))(s0:Sl w (D.mks (x.list.map GVal.toD) a4) f0 v0)(s1:Sl w (D.mks (x.cols.map ls) a5) f1 v1)(s2:Sl w (D.mks (x.rows.map GRow.toD) a6) f2 v2):R w (x.toD.amk k) (f0++(f1++(f2))) [.int .i64 x.kind,.int .i64 x.n,.int .i64 x.step,.string x.text,v0,v1,v2]:=by
 subst e4 e5 e6;simp only[GVal.dI,D.amk,D.NJ,D.acnt,D.qK,li,ls,ji,jf,iC,kH,iY,i_,k_];exact⟨_,rfl,⟨_,rfl,⟨_,rfl,⟨_,rfl,⟨_,_,_,_,rfl,rfl,s0,⟨_,_,_,_,rfl,rfl,s1,⟨_,_,_,_,(o_ _).symm,rfl,s2,⟨rfl,rfl⟩⟩⟩⟩⟩⟩⟩⟩
theorem GVal.LP{w:World}{x:GVal}{k:Int}{fp:List Nat}{cs:List Value}(h:R w (x.toD.amk k) fp cs):∃(a4 a5 a6:Int) (v0 v1 v2:Value) (f0 f1 f2:List Nat),a4=k+((0:Nat):Int)+((0:Nat):Int)+((0:Nat):Int)+((0:Nat):Int)∧a5=k+((0:Nat):Int)+((0:Nat):Int)+((0:Nat):Int)+((0:Nat):Int)+((D.cnts (x.list.map GVal.toD):Nat):Int)∧a6=k+((0:Nat):Int)+((0:Nat):Int)+((0:Nat):Int)+((0:Nat):Int)+((D.cnts (x.list.map GVal.toD):Nat):Int)+((D.cnts (x.cols.map ls):Nat):Int)∧fp=f0++(f1++(f2))∧cs= [.int .i64 x.kind,.int .i64 x.n,.int .i64 x.step,.string x.text,v0,v1,v2]∧Sl w (D.mks (x.list.map GVal.toD) a4) f0 v0∧Sl w (D.mks (x.cols.map ls) a5) f1 v1∧Sl w (D.mks (x.rows.map GRow.toD) a6) f2 v2:=by
 simp only[GVal.dI,D.amk,D.NJ,D.acnt,D.qK,li,ls,ji,jf,iC,kH,iY,i_,k_]at h;obtain⟨_,rfl,⟨_,rfl,⟨_,rfl,⟨_,rfl,⟨_,_,_,_,rfl,rfl,s0,⟨_,_,_,_,rfl,rfl,s1,⟨_,_,_,_,rfl,rfl,s2,⟨rfl,rfl⟩⟩⟩⟩⟩⟩⟩⟩:=h;exact⟨_,_,_,_,_,_,_,_,_,rfl,rfl,rfl,by simp,rfl,s0,s1,s2⟩
theorem GVal.wu(x:GVal):x.toD.acnt=D.cnts (x.list.map GVal.toD)+D.cnts (x.cols.map ls)+D.cnts (x.rows.map GRow.toD):=by
 simp only[GVal.dI,D.acnt,D.qK,li,ls]
 try omega
theorem rY(l:List GVal)(hM0:∀x∈l,gK Tryz.prog 42 (x.list.map GVal.toD))(hM1:∀x∈l,gK Tryz.prog 43 (x.cols.map ls))(hM2:∀x∈l,gK Tryz.prog 44 (x.rows.map GRow.toD)):gK Tryz.prog 42 (l.map GVal.toD):=by
 intro w fp v k hS hF hk0 hk1;obtain⟨A,c,rfl,hl,hc⟩:=hS.fK;have hm:l.length≤9223372036854775807:=by unfold maxLen at hc;omega
 clear hl hc
 go_enter Tryz.func42,Tryz.ntmps42
 go_wp2_with fail
 go_loopw [1,5] (fun kv iv wr=>∃(i:Nat) (K:Int),i≤l.length∧iv= .int .i64 i∧kv= .int .i64 K∧K=k+D.cnts ((l.map GVal.toD).take i)∧Sl wr (part (l.map GVal.toD) k i) fp (.slice A l.length c)∧Touch fp w wr) (fun _ iv _=>l.length - (intOf iv).toNat)
 case atStart=>exact⟨0,k,by omega,rfl,rfl,by simp[D.jD],by rw[pJ];exact hS,Touch.refl _ _⟩
 case round=>
  obtain⟨i,K,hi,rfl,rfl,hK,hSi,hT⟩:=hrel;by_cases hlt:i<l.length
  ·have hi':i<(l.map GVal.toD).length:=by rw[a_];exact hlt
   have hcn:=D.jM (l.map GVal.toD) hi';have hle:=D.iH (l.map GVal.toD) (i+1);rw[b_,GVal.rQ]at hcn;have hk2:0≤K:=by omega
   have hk3:K+4+(D.cnts (l[i].list.map GVal.toD):Int)+(D.cnts (l[i].cols.map ls):Int)+(D.cnts (l[i].rows.map GRow.toD):Int)≤4611686018427387904:=by omega
   have hK':=d_ hK;have hcn':=d_ hcn;have hFr:=hF.touch (R.lt hS) hT;obtain⟨b,o,fi,ci,rfl,hbb,hbf,hri,hfi,hbn,hfn,hat,hback⟩:=hSi.focus hF.1 (lU GVal.szs k i) (qW (l.map GVal.toD) k hi')
   rw[b_]at hri;clear hK hcn hle;obtain⟨v0,v1,v2,g0,g1,g2,rfl,rfl,hV0,hV1,hV2⟩:=GVal.opened.1 hri;obtain⟨A0,c0,rfl,hqa,hqb⟩:=hV0.fK;clear hqa hqb;obtain⟨A1,c1,rfl,hqa,hqb⟩:=hV1.fK;clear hqa hqb;obtain⟨A2,c2,rfl,hqa,hqb⟩:=hV2.fK;clear hqa hqb;have nN1:=(c_.1 hfn).2.1;have nd0:=(c_.1 hfn).1;have D0_1:∀x∈g1,x∉g0:=fun x hx hy=>(c_.1 hfn).2.2 x hy x (by simp[hx]) rfl
   have D1_0:∀x∈g0,x∉g1:=fun x hx hy=>D0_1 x hy hx
   have D0_2:∀x∈g2,x∉g0:=fun x hx hy=>(c_.1 hfn).2.2 x hy x (by simp[hx]) rfl
   have D2_0:∀x∈g0,x∉g2:=fun x hx hy=>D0_2 x hy hx
   have nN2:=(c_.1 nN1).2.1;have nd1:=(c_.1 nN1).1;have D1_2:∀x∈g2,x∉g1:=fun x hx hy=>(c_.1 nN1).2.2 x hy x (by simp[hx]) rfl
   have D2_1:∀x∈g1,x∉g2:=fun x hx hy=>D1_2 x hy hx
   have nd2:=nN2;have bn0:b∉g0:=fun hx=>hbn (by first|exact hx|simp[hx])
   have Fr0:gV wr 0 g0:=hFr.sub nd0 (fun x hx=>hfi x (by first|exact hx|simp[hx]));have bn1:b∉g1:=fun hx=>hbn (by first|exact hx|simp[hx])
   have Fr1:gV wr 0 g1:=hFr.sub nd1 (fun x hx=>hfi x (by first|exact hx|simp[hx]));have bn2:b∉g2:=fun hx=>hbn (by first|exact hx|simp[hx])
   have Fr2:gV wr 0 g2:=hFr.sub nd2 (fun x hx=>hfi x (by first|exact hx|simp[hx]));have z0:∀off,wr.frozen? ⟨b,off,none⟩=false:=fun off=>(hFr.2 b hbf).2 off
   clear hri;have hI0:Inr b (o+i*7) (o+i*7+7) [] wr wr:=Inr.refl _ _ _ _ _;have hA0:=hat;clear hat;have q0:=hA0.head;have q1:=hA0.nth 1 rfl;have q2:=hA0.nth 2 rfl
   go_wp2_with fail
   refine(nD _ _ (by omega)).mono ?_;rintro e w1 ⟨rfl,hb1⟩;have hbW:=(((hI0.setCell (off:=o+i*7) (by omega) (by omega) (.int .i64 (K))).setCell (off:=o+i*7+1) (by omega) (by omega) (.int .i64 (K+1))).setCell (off:=o+i*7+2) (by omega) (by omega) (.int .i64 (K+1+1)))
   have hI1:=((((hI0.setCell (off:=o+i*7) (by omega) (by omega) (.int .i64 (K))).setCell (off:=o+i*7+1) (by omega) (by omega) (.int .i64 (K+1))).setCell (off:=o+i*7+2) (by omega) (by omega) (.int .i64 (K+1+1)))).below hbb hb1;have hA1:=((((hA0.set (j:=0) (by simp) (.int .i64 (K))).set (j:=1) (by simp) (.int .i64 (K+1))).set (j:=2) (by simp) (.int .i64 (K+1+1)))).below (e_ hbb hbW.size) hb1;have z1:∀off,w1.frozen? ⟨b,off,none⟩=false:=fun off=>(hI1.froz b off hbb).trans (hFr.2 b hbf |>.2 off)
   clear hbW hb1 z0 hA0 hI0 q0 q1 q2;have q3:=hA1.nth 3 rfl;have q4:=hA1.nth 4 rfl
   go_wp2_with fail
   have hbW:=(hI1.setCell (off:=o+i*7+3) (by omega) (by omega) (.string (qZ (K+1+1+1))))
   refine(hM0 _ (j_ hlt) _ g0 _ _ (hV0.inr hbW bn0 (fun x hx=>jg)) (Fr0.inr (R.lt hV0) hbW) (by omega) (by omega)).mono ?_;rintro e w2 ⟨rfl,hS0,hb2⟩;have hI2:=(((hI1.setCell (off:=o+i*7+3) (by omega) (by omega) (.string (qZ (K+1+1+1))))).mono (F':= []++g0) (fun x hx=>h_ _ hx)).touch hbb hb2 (fun x hx=>f_ _ hx) bn0;have hA2:=((hA1.set (j:=3) (by simp) (.string (qZ (K+1+1+1))))).touch (e_ hbb hbW.size) hb2 bn0;have hbb2:b<w2.heap.size:=e_ hbb hI2.size;have hJ0_2:Inr b (o+i*7) (o+i*7+7) [] w2 w2:=Inr.refl _ _ _ _ _;have z2:∀off,w2.frozen? ⟨b,off,none⟩=false:=fun off=>(hI2.froz b off hbb).trans (hFr.2 b hbf |>.2 off)
   clear hbW hb2 z1 hA1 hI1 q3 q4;have q5:=hA2.nth 5 rfl
   go_wp2_with fail
   have hbW:=hI2;refine(hM1 _ (j_ hlt) _ g1 _ _ (hV1.inr hbW bn1 (fun x hx=>jA (jg) (D0_1 x hx))) (Fr1.inr (R.lt hV1) hbW) (by omega) (by omega)).mono ?_;rintro e w3 ⟨rfl,hS1,hb3⟩;have hI3:=((hI2).mono (F':=([]++g0)++g1) (fun x hx=>h_ _ hx)).touch hbb hb3 (fun x hx=>f_ _ hx) bn1;have hJ0_3:=((hJ0_2).mono (F':= []++g1) (fun x hx=>h_ _ hx)).touch hbb2 hb3 (fun x hx=>f_ _ hx) bn1;have hA3:=(hA2).touch (e_ hbb hbW.size) hb3 bn1;have hbb3:b<w3.heap.size:=e_ hbb hI3.size;have hJ1_3:Inr b (o+i*7) (o+i*7+7) [] w3 w3:=Inr.refl _ _ _ _ _;have z3:∀off,w3.frozen? ⟨b,off,none⟩=false:=fun off=>(hI3.froz b off hbb).trans (hFr.2 b hbf |>.2 off)
   clear hbW hb3 z2 hA2 hI2 hJ0_2 q5;have q6:=hA3.nth 6 rfl
   go_wp2_with fail
   have hbW:=hI3;refine(hM2 _ (j_ hlt) _ g2 _ _ (hV2.inr hbW bn2 (fun x hx=>jA (jA (jg) (D0_2 x hx)) (D1_2 x hx))) (Fr2.inr (R.lt hV2) hbW) (by omega) (by omega)).mono ?_;rintro e w4 ⟨rfl,hS2,hb4⟩;have hI4:=((hI3).mono (F':=(([]++g0)++g1)++g2) (fun x hx=>h_ _ hx)).touch hbb hb4 (fun x hx=>f_ _ hx) bn2;have hJ0_4:=((hJ0_3).mono (F':=([]++g1)++g2) (fun x hx=>h_ _ hx)).touch hbb2 hb4 (fun x hx=>f_ _ hx) bn2;have hJ1_4:=((hJ1_3).mono (F':= []++g2) (fun x hx=>h_ _ hx)).touch hbb3 hb4 (fun x hx=>f_ _ hx) bn2;have hA4:=(hA3).touch (e_ hbb hbW.size) hb4 bn2;have hbb4:b<w4.heap.size:=e_ hbb hI4.size;have hJ2_4:Inr b (o+i*7) (o+i*7+7) [] w4 w4:=Inr.refl _ _ _ _ _;have z4:∀off,w4.frozen? ⟨b,off,none⟩=false:=fun off=>(hI4.froz b off hbb).trans (hFr.2 b hbf |>.2 off)
   clear hbW hb4 z3 hA3 hI3 hJ0_3 hJ1_3 q6
   go_wp2_with fail
   have hIe:=hI4;have hAe:=hA4;have hSe0:=hS0.inr hJ0_4 bn0 (fun x hx=>jA (jA (jg) (D1_0 x hx)) (D2_0 x hx));have hSe1:=hS1.inr hJ1_4 bn1 (fun x hx=>jA (jg) (D2_1 x hx));have hSe2:=hS2.inr hJ2_4 bn2 (fun x hx=>jg);have hIf:=hIe.mono (F':=g0++(g1++(g2))) (fun x hx=>by
    simp only[n_,p_,false_or]at hx;rcases hx with(h|h)|h<;>simp[h])
   go_roundw
   case rel=>
    refine⟨i+1,K+1+1+1+1+(D.cnts (l[i].list.map GVal.toD):Int)+(D.cnts (l[i].cols.map ls):Int)+(D.cnts (l[i].rows.map GRow.toD):Int),by omega,by go_num,rfl, ?_, ?_,hT.trans (hIf.uV hbf hfi)⟩
    ·rw[hcn'.out];have:=hK'.out;push_cast;omega
    ·rw[← nJ _ k hi',b_];exact hback _ _ _ (by rw[D.GN];exact GVal.gu _) (GVal.GR (by have:=hK'.out;push_cast;omega) (by have:=hK'.out;push_cast;omega) (by have:=hK'.out;push_cast;omega) (by have:=hK'.out;push_cast;omega) (by have:=hK'.out;push_cast;omega) (by have:=hK'.out;push_cast;omega) (by have:=hK'.out;push_cast;omega) hSe0 hSe1 hSe2) hAe hIf
   case measure=>(simp[intOf]<;>omega)
  ·have hf:=d_ (show i=l.length by omega);have hK':=d_ hK;clear hK
   go_wp2_with fail
   go_ret
   have e1:=hf.out;have e2:=hK'.out;rw[g_ (by rw[a_];omega)]at e2;rw[jX _ _ (by rw[a_];omega)]at hSi;exact⟨fU e2,hSi,hT⟩
theorem GVal.GU :∀(n:Nat) (x:GVal),SizeOf.sizeOf x≤n→gK Tryz.prog 42 (x.list.map GVal.toD)
 |0,x,h=>by cases x;simp at h
 |n+1,x,h=>rY _ (fun y hy=>GVal.GU n y (by have:=GVal.lt_of_mem hy;omega)) (fun y _=>qC _) (fun y _=>xI _)
theorem IW(l:List GVal):gK Tryz.prog 42 (l.map GVal.toD):=rY l (fun y _=>GVal.GU _ y (l_ _)) (fun y _=>qC _) (fun y _=>xI _)
theorem FI(l:List Int):gQ Tryz.prog 88 (l.map li):=by
 intro w fp v k hS hk0 hk1;obtain⟨A,c,rfl,hl,hc⟩:=hS.form;rw[D.fM,a_]at hl hS⊢;have hm:l.length≤9223372036854775807:=by unfold maxLen at hc;omega
 clear hl hc
 go_enter Tryz.func88,Tryz.ntmps88
 go_wp2_with fail
 go_loopw [1,5] (fun kv iv wr=>∃(i:Nat) (K:Int),i≤l.length∧iv= .int .i64 i∧kv= .int .i64 K∧K=k+D.cnts ((l.map li).take i)∧Below w.heap.size w wr) (fun _ iv _=>l.length - (intOf iv).toNat)
 case atStart=>exact⟨0,k,by omega,rfl,rfl,by simp[D.jD],m_ _ _⟩
 case round=>
  obtain⟨i,K,hi,rfl,rfl,hK,hb⟩:=hrel;by_cases hlt:i<l.length
  ·have hi':i<(l.map li).length:=by rw[a_];exact hlt
   have hcn:=D.jM (l.map li) hi';have hle:=D.iH (l.map li) (i+1);have hc1:((l.map li)[i]).cnt=1:=by rw[b_];rfl
   rw[hc1]at hcn;have hk2:0≤K:=by omega
   have hk3:K+1≤4611686018427387904:=by omega
   have hK':=d_ hK;have hcn':=d_ hcn;obtain⟨b,o,fi,ci,rfl,hbb,hbf,hri,hfi,hat⟩:=hS.elem (s:=1) (fun d hd=>lU EJ k (l.map li).length d (by rw[jX _ _ (l_ _)];exact hd)) (vG (l.map li) k hi');rw[b_]at hri;clear hK hcn hle;obtain⟨rfl,rfl⟩:=hri;simp only[q_]at hat;have q0:=hat.head;have q0:wr.cell? ⟨b,o+i,none⟩=some (.int .i64 K):=by
    have q1:w.cell? ⟨b,o+i,none⟩=some (.int .i64 (k+(D.cnts ((l.map li).take i):Int))):=hat.head;rw[hb.cell (p:=⟨b,o+i,none⟩) hbb,hK'.out];exact q1
   clear hat
   go_wp2_with fail
   go_roundw
   case rel=>exact⟨i+1,K+1,by omega,by go_num,rfl,by rw[hcn'.out];have:=hK'.out;push_cast;omega,hb⟩
   case measure=>(simp[intOf]<;>omega)
  ·have hf:=d_ (show i=l.length by omega);have hK':=d_ hK;clear hK
   go_wp2_with fail
   go_ret
   have e1:=hf.out;have e2:=hK'.out;rw[g_ (by rw[a_];omega)]at e2;exact⟨fU e2,hb⟩
theorem NR(l:List Int):gQ Tryz.prog 88 (l.map li):=FI l
theorem zh(l:List ByteArray):gQ Tryz.prog 46 (l.map ls):=by
 intro w fp v k hS hk0 hk1;obtain⟨A,c,rfl,hl,hc⟩:=hS.form;rw[D.fM,a_]at hl hS⊢;have hm:l.length≤9223372036854775807:=by unfold maxLen at hc;omega
 clear hl hc
 go_enter Tryz.func46,Tryz.ntmps46
 go_wp2_with fail
 go_loopw [1,5] (fun kv iv wr=>∃(i:Nat) (K:Int),i≤l.length∧iv= .int .i64 i∧kv= .int .i64 K∧K=k+D.cnts ((l.map ls).take i)∧Below w.heap.size w wr) (fun _ iv _=>l.length - (intOf iv).toNat)
 case atStart=>exact⟨0,k,by omega,rfl,rfl,by simp[D.jD],m_ _ _⟩
 case round=>
  obtain⟨i,K,hi,rfl,rfl,hK,hb⟩:=hrel;by_cases hlt:i<l.length
  ·have hi':i<(l.map ls).length:=by rw[a_];exact hlt
   have hcn:=D.jM (l.map ls) hi';have hle:=D.iH (l.map ls) (i+1);have hc1:((l.map ls)[i]).cnt=1:=by rw[b_];rfl
   rw[hc1]at hcn;have hk2:0≤K:=by omega
   have hk3:K+1≤4611686018427387904:=by omega
   have hK':=d_ hK;have hcn':=d_ hcn;obtain⟨b,o,fi,ci,rfl,hbb,hbf,hri,hfi,hat⟩:=hS.elem (s:=1) (fun d hd=>lU uI k (l.map ls).length d (by rw[jX _ _ (l_ _)];exact hd)) (vG (l.map ls) k hi');rw[b_]at hri;clear hK hcn hle;obtain⟨rfl,rfl⟩:=hri;simp only[q_]at hat;have q0:=hat.head;have q0:wr.cell? ⟨b,o+i,none⟩=some (.string (qZ K)):=by
    have q1:w.cell? ⟨b,o+i,none⟩=some (.string (qZ (k+(D.cnts ((l.map ls).take i):Int)))):=hat.head;rw[hb.cell (p:=⟨b,o+i,none⟩) hbb,hK'.out];exact q1
   clear hat
   go_wp2_with fail
   have hbp:b<wr.heap.size:=e_ hbb hb.size
   go_region_held3 (fun w'=>w'.cell? ⟨b,o+i,none⟩=some (.string (qZ (K)))) (go_keep)
    ((go_at_call 85;refine(nD _ _ (by omega)).mono ?_;rintro e w1 ⟨rfl,hb1⟩;have L1:Below wr.heap.size wr w1:=(m_ _ _).drew.trans hb1;have hc1:∀off,w1.cell? ⟨b,off,none⟩=wr.cell? ⟨b,off,none⟩:=fun off=>L1.cell (p:=⟨b,off,none⟩) hbp))
   have G1:Below w.heap.size w w1:=hb.trans (L1.mono hb.size);clear hb1 L1 hc1 hbp
   go_wp2_with fail
   go_roundw
   case rel=>exact⟨i+1,K+1,by omega,by go_num,rfl,by rw[hcn'.out];have:=hK'.out;push_cast;omega,G1⟩
   case measure=>(simp[intOf]<;>omega)
  ·have hf:=d_ (show i=l.length by omega);have hK':=d_ hK;clear hK
   go_wp2_with fail
   go_ret
   have e1:=hf.out;have e2:=hK'.out;rw[g_ (by rw[a_];omega)]at e2;exact⟨fU e2,hb⟩
theorem qE(l:List ByteArray):gQ Tryz.prog 46 (l.map ls):=zh l
theorem zk(l:List GOrigin):gQ Tryz.prog 89 (l.map GOrigin.toD):=by
 intro w fp v k hS hk0 hk1;obtain⟨A,c,rfl,hl,hc⟩:=hS.form;rw[D.fM,a_]at hl hS⊢;have hm:l.length≤9223372036854775807:=by unfold maxLen at hc;omega
 clear hl hc
 go_enter Tryz.func89,Tryz.ntmps89
 go_wp2_with fail
 go_loopw [1,5] (fun kv iv wr=>∃(i:Nat) (K:Int),i≤l.length∧iv= .int .i64 i∧kv= .int .i64 K∧K=k+D.cnts ((l.map GOrigin.toD).take i)∧Below w.heap.size w wr) (fun _ iv _=>l.length - (intOf iv).toNat)
 case atStart=>exact⟨0,k,by omega,rfl,rfl,by simp[D.jD],m_ _ _⟩
 case round=>
  obtain⟨i,K,hi,rfl,rfl,hK,hb⟩:=hrel;by_cases hlt:i<l.length
  ·have hi':i<(l.map GOrigin.toD).length:=by rw[a_];exact hlt
   have hcn:=D.jM (l.map GOrigin.toD) hi';have hle:=D.iH (l.map GOrigin.toD) (i+1);rw[b_,GOrigin.rQ]at hcn;have hk2:0≤K:=by omega
   have hk3:K+2≤4611686018427387904:=by omega
   have hK':=d_ hK;have hcn':=d_ hcn;obtain⟨b,o,fi,ci,rfl,hbb,hbf,hri,hfi,hat⟩:=hS.elem (s:=2) (fun d hd=>lU GOrigin.szs k (l.map GOrigin.toD).length d (by rw[jX _ _ (l_ _)];exact hd)) (vG (l.map GOrigin.toD) k hi');rw[b_]at hri;clear hK hcn hle;obtain⟨a0,a1,e0,e1,rfl,rfl⟩:=GOrigin.Ai hri;have d0:K=a0:=by have:=hK'.out;omega
   have d1:a1=K+1:=by have:=hK'.out;push_cast at e1;omega
   clear e0 e1;subst d0 d1;clear hri;have q0:wr.cell? ⟨b,o+i*2,none⟩=some (.int .i64 (K)):=(hb.cell (p:=⟨b,o+i*2,none⟩) hbb).trans (hat.head);have q1:wr.cell? ⟨b,o+i*2+1,none⟩=some (.int .i64 (K+1)):=(hb.cell (p:=⟨b,o+i*2+1,none⟩) hbb).trans (hat.nth 1 rfl)
   go_wp2_with fail
   go_roundw
   case rel=>exact⟨i+1,K+1+1,by omega,by go_num,rfl,by rw[hcn'.out];have:=hK'.out;push_cast;omega,hb⟩
   case measure=>(simp[intOf]<;>omega)
  ·have hf:=d_ (show i=l.length by omega);have hK':=d_ hK;clear hK
   go_wp2_with fail
   go_ret
   have e1:=hf.out;have e2:=hK'.out;rw[g_ (by rw[a_];omega)]at e2;exact⟨fU e2,hb⟩
theorem FD(l:List GOrigin):gQ Tryz.prog 89 (l.map GOrigin.toD):=zk l
theorem Fv(l:List GRow)(hM0:∀x∈l,gQ Tryz.prog 88 (x.cells.map li))(hM1:∀x∈l,gQ Tryz.prog 89 (x.src.map GOrigin.toD)):gQ Tryz.prog 47 (l.map GRow.toD):=by
 intro w fp v k hS hk0 hk1;obtain⟨A,c,rfl,hl,hc⟩:=hS.form;rw[D.fM,a_]at hl hS⊢;have hm:l.length≤9223372036854775807:=by unfold maxLen at hc;omega
 clear hl hc
 go_enter Tryz.func47,Tryz.ntmps47
 go_wp2_with fail
 go_loopw [1,5] (fun kv iv wr=>∃(i:Nat) (K:Int),i≤l.length∧iv= .int .i64 i∧kv= .int .i64 K∧K=k+D.cnts ((l.map GRow.toD).take i)∧Below w.heap.size w wr) (fun _ iv _=>l.length - (intOf iv).toNat)
 case atStart=>exact⟨0,k,by omega,rfl,rfl,by simp[D.jD],m_ _ _⟩
 case round=>
  obtain⟨i,K,hi,rfl,rfl,hK,hb⟩:=hrel;by_cases hlt:i<l.length
  ·have hi':i<(l.map GRow.toD).length:=by rw[a_];exact hlt
   have hcn:=D.jM (l.map GRow.toD) hi';have hle:=D.iH (l.map GRow.toD) (i+1);rw[b_,GRow.rQ]at hcn;have hk2:0≤K:=by omega
   have hk3:K+0+(D.cnts (l[i].cells.map li):Int)+(D.cnts (l[i].src.map GOrigin.toD):Int)≤4611686018427387904:=by omega
   have hK':=d_ hK;have hcn':=d_ hcn;obtain⟨b,o,fi,ci,rfl,hbb,hbf,hri,hfi,hat⟩:=hS.elem (s:=2) (fun d hd=>lU GRow.szs k (l.map GRow.toD).length d (by rw[jX _ _ (l_ _)];exact hd)) (vG (l.map GRow.toD) k hi');rw[b_]at hri;clear hK hcn hle;obtain⟨a0,a1,v0,v1,g0,g1,e0,e1,rfl,rfl,hV0,hV1⟩:=GRow.Ai hri;have d0:K=a0:=by have:=hK'.out;omega
   have d1:a1=K+(D.cnts (l[i].cells.map li):Int):=by have:=hK'.out;push_cast at e1;omega
   clear e0 e1;subst d0 d1;obtain⟨A0,c0,rfl,hqa,hqb⟩:=hV0.form;simp only[D.fM,a_]at hqa hV0 hat hri;clear hqa hqb;obtain⟨A1,c1,rfl,hqa,hqb⟩:=hV1.form;simp only[D.fM,a_]at hqa hV1 hat hri;clear hqa hqb;clear hri;have q0:wr.cell? ⟨b,o+i*2,none⟩=some (.slice A0 l[i].cells.length c0):=(hb.cell (p:=⟨b,o+i*2,none⟩) hbb).trans (hat.head)
   go_wp2_with fail
   refine(hM0 _ (j_ hlt) _ _ _ _ (hV0.below hb) (by omega) (by omega)).mono ?_;rintro e w1 ⟨rfl,hb1⟩;have G1:Below w.heap.size w w1:=hb.trans (hb1.mono hb.size);clear hb1 q0;have q1:w1.cell? ⟨b,o+i*2+1,none⟩=some (.slice A1 l[i].src.length c1):=(G1.cell (p:=⟨b,o+i*2+1,none⟩) hbb).trans (hat.nth 1 rfl)
   go_wp2_with fail
   refine(hM1 _ (j_ hlt) _ _ _ _ (hV1.below G1) (by omega) (by omega)).mono ?_;rintro e w2 ⟨rfl,hb2⟩;have G2:Below w.heap.size w w2:=G1.trans (hb2.mono G1.size);clear hb2 q1
   go_wp2_with fail
   go_roundw
   case rel=>exact⟨i+1,K+(D.cnts (l[i].cells.map li):Int)+(D.cnts (l[i].src.map GOrigin.toD):Int),by omega,by go_num,rfl,by rw[hcn'.out];have:=hK'.out;push_cast;omega,G2⟩
   case measure=>(simp[intOf]<;>omega)
  ·have hf:=d_ (show i=l.length by omega);have hK':=d_ hK;clear hK
   go_wp2_with fail
   go_ret
   have e1:=hf.out;have e2:=hK'.out;rw[g_ (by rw[a_];omega)]at e2;exact⟨fU e2,hb⟩
theorem xJ(l:List GRow):gQ Tryz.prog 47 (l.map GRow.toD):=Fv l (fun y _=>NR _) (fun y _=>FD _)
theorem rZ(l:List GVal)(hM0:∀x∈l,gQ Tryz.prog 45 (x.list.map GVal.toD))(hM1:∀x∈l,gQ Tryz.prog 46 (x.cols.map ls))(hM2:∀x∈l,gQ Tryz.prog 47 (x.rows.map GRow.toD)):gQ Tryz.prog 45 (l.map GVal.toD):=by
 intro w fp v k hS hk0 hk1;obtain⟨A,c,rfl,hl,hc⟩:=hS.form;rw[D.fM,a_]at hl hS⊢;have hm:l.length≤9223372036854775807:=by unfold maxLen at hc;omega
 clear hl hc
 go_enter Tryz.func45,Tryz.ntmps45
 go_wp2_with fail
 go_loopw [1,5] (fun kv iv wr=>∃(i:Nat) (K:Int),i≤l.length∧iv= .int .i64 i∧kv= .int .i64 K∧K=k+D.cnts ((l.map GVal.toD).take i)∧Below w.heap.size w wr) (fun _ iv _=>l.length - (intOf iv).toNat)
 case atStart=>exact⟨0,k,by omega,rfl,rfl,by simp[D.jD],m_ _ _⟩
 case round=>
  obtain⟨i,K,hi,rfl,rfl,hK,hb⟩:=hrel;by_cases hlt:i<l.length
  ·have hi':i<(l.map GVal.toD).length:=by rw[a_];exact hlt
   have hcn:=D.jM (l.map GVal.toD) hi';have hle:=D.iH (l.map GVal.toD) (i+1);rw[b_,GVal.rQ]at hcn;have hk2:0≤K:=by omega
   have hk3:K+4+(D.cnts (l[i].list.map GVal.toD):Int)+(D.cnts (l[i].cols.map ls):Int)+(D.cnts (l[i].rows.map GRow.toD):Int)≤4611686018427387904:=by omega
   have hK':=d_ hK;have hcn':=d_ hcn;obtain⟨b,o,fi,ci,rfl,hbb,hbf,hri,hfi,hat⟩:=hS.elem (s:=7) (fun d hd=>lU GVal.szs k (l.map GVal.toD).length d (by rw[jX _ _ (l_ _)];exact hd)) (vG (l.map GVal.toD) k hi');rw[b_]at hri;clear hK hcn hle;obtain⟨a0,a1,a2,a3,a4,a5,a6,v0,v1,v2,g0,g1,g2,e0,e1,e2,e3,e4,e5,e6,rfl,rfl,hV0,hV1,hV2⟩:=GVal.Ai hri;have d0:K=a0:=by have:=hK'.out;omega
   have d1:a1=K+1:=by have:=hK'.out;push_cast at e1;omega
   have d2:a2=K+1+1:=by have:=hK'.out;push_cast at e2;omega
   have d3:a3=K+1+1+1:=by have:=hK'.out;push_cast at e3;omega
   have d4:a4=K+1+1+1+1:=by have:=hK'.out;push_cast at e4;omega
   have d5:a5=K+1+1+1+1+(D.cnts (l[i].list.map GVal.toD):Int):=by have:=hK'.out;push_cast at e5;omega
   have d6:a6=K+1+1+1+1+(D.cnts (l[i].list.map GVal.toD):Int)+(D.cnts (l[i].cols.map ls):Int):=by have:=hK'.out;push_cast at e6;omega
   clear e0 e1 e2 e3 e4 e5 e6;subst d0 d1 d2 d3 d4 d5 d6;obtain⟨A0,c0,rfl,hqa,hqb⟩:=hV0.form;simp only[D.fM,a_]at hqa hV0 hat hri;clear hqa hqb;obtain⟨A1,c1,rfl,hqa,hqb⟩:=hV1.form;simp only[D.fM,a_]at hqa hV1 hat hri;clear hqa hqb;obtain⟨A2,c2,rfl,hqa,hqb⟩:=hV2.form;simp only[D.fM,a_]at hqa hV2 hat hri;clear hqa hqb;clear hri;have q0:wr.cell? ⟨b,o+i*7,none⟩=some (.int .i64 (K)):=(hb.cell (p:=⟨b,o+i*7,none⟩) hbb).trans (hat.head);have q1:wr.cell? ⟨b,o+i*7+1,none⟩=some (.int .i64 (K+1)):=(hb.cell (p:=⟨b,o+i*7+1,none⟩) hbb).trans (hat.nth 1 rfl);have q2:wr.cell? ⟨b,o+i*7+2,none⟩=some (.int .i64 (K+1+1)):=(hb.cell (p:=⟨b,o+i*7+2,none⟩) hbb).trans (hat.nth 2 rfl);have q3:wr.cell? ⟨b,o+i*7+3,none⟩=some (.string (qZ (K+1+1+1))):=(hb.cell (p:=⟨b,o+i*7+3,none⟩) hbb).trans (hat.nth 3 rfl)
   go_wp2_with fail
   have hbp:b<wr.heap.size:=e_ hbb hb.size
   go_region_held3 (fun w'=>w'.cell? ⟨b,o+i*7+3,none⟩=some (.string (qZ (K+1+1+1)))) (go_keep)
    ((go_at_call 85;refine(nD _ _ (by omega)).mono ?_;rintro e w1 ⟨rfl,hb1⟩;have L1:Below wr.heap.size wr w1:=(m_ _ _).drew.trans hb1;have hc1:∀off,w1.cell? ⟨b,off,none⟩=wr.cell? ⟨b,off,none⟩:=fun off=>L1.cell (p:=⟨b,off,none⟩) hbp))
   have G1:Below w.heap.size w w1:=hb.trans (L1.mono hb.size);clear hb1 L1 hc1 hbp q0 q1 q2 q3;have q4:w1.cell? ⟨b,o+i*7+4,none⟩=some (.slice A0 l[i].list.length c0):=(G1.cell (p:=⟨b,o+i*7+4,none⟩) hbb).trans (hat.nth 4 rfl)
   go_wp2_with fail
   refine(hM0 _ (j_ hlt) _ _ _ _ (hV0.below G1) (by omega) (by omega)).mono ?_;rintro e w2 ⟨rfl,hb2⟩;have G2:Below w.heap.size w w2:=G1.trans (hb2.mono G1.size);clear hb2 q4;have q5:w2.cell? ⟨b,o+i*7+5,none⟩=some (.slice A1 l[i].cols.length c1):=(G2.cell (p:=⟨b,o+i*7+5,none⟩) hbb).trans (hat.nth 5 rfl)
   go_wp2_with fail
   refine(hM1 _ (j_ hlt) _ _ _ _ (hV1.below G2) (by omega) (by omega)).mono ?_;rintro e w3 ⟨rfl,hb3⟩;have G3:Below w.heap.size w w3:=G2.trans (hb3.mono G2.size);clear hb3 q5;have q6:w3.cell? ⟨b,o+i*7+6,none⟩=some (.slice A2 l[i].rows.length c2):=(G3.cell (p:=⟨b,o+i*7+6,none⟩) hbb).trans (hat.nth 6 rfl)
   go_wp2_with fail
   refine(hM2 _ (j_ hlt) _ _ _ _ (hV2.below G3) (by omega) (by omega)).mono ?_;rintro e w4 ⟨rfl,hb4⟩;have G4:Below w.heap.size w w4:=G3.trans (hb4.mono G3.size);clear hb4 q6
   go_wp2_with fail
   go_roundw
   case rel=>exact⟨i+1,K+1+1+1+1+(D.cnts (l[i].list.map GVal.toD):Int)+(D.cnts (l[i].cols.map ls):Int)+(D.cnts (l[i].rows.map GRow.toD):Int),by omega,by go_num,rfl,by rw[hcn'.out];have:=hK'.out;push_cast;omega,G4⟩
   case measure=>(simp[intOf]<;>omega)
  ·have hf:=d_ (show i=l.length by omega);have hK':=d_ hK;clear hK
   go_wp2_with fail
   go_ret
   have e1:=hf.out;have e2:=hK'.out;rw[g_ (by rw[a_];omega)]at e2;exact⟨fU e2,hb⟩
theorem GVal.Ho :∀(n:Nat) (x:GVal),SizeOf.sizeOf x≤n→gQ Tryz.prog 45 (x.list.map GVal.toD)
 |0,x,h=>by cases x;simp at h
 |n+1,x,h=>rZ _ (fun y hy=>GVal.Ho n y (by have:=GVal.lt_of_mem hy;omega)) (fun y _=>qE _) (fun y _=>xJ _)
theorem IX(l:List GVal):gQ Tryz.prog 45 (l.map GVal.toD):=rZ l (fun y _=>GVal.Ho _ y (l_ _)) (fun y _=>qE _) (fun y _=>xJ _)
theorem GVal.RI(x:GVal)(hM0:gK Tryz.prog 42 (x.list.map GVal.toD))(hM1:gK Tryz.prog 43 (x.cols.map ls))(hM2:gK Tryz.prog 44 (x.rows.map GRow.toD)):Ea Tryz.prog 9 x.toD:=by
 intro w fp cs k hR hF hk0 hk1;rw[GVal.wu]at hk1;have hk2:k+(D.cnts (x.list.map GVal.toD):Int)+(D.cnts (x.cols.map ls):Int)+(D.cnts (x.rows.map GRow.toD):Int)≤4611686018427387904:=by push_cast at hk1;omega
 clear hk1;obtain⟨v0,v1,v2,g0,g1,g2,rfl,rfl,hV0,hV1,hV2⟩:=GVal.opened.1 hR;obtain⟨A0,c0,rfl,hqa,hqb⟩:=hV0.fK;clear hqa hqb;obtain⟨A1,c1,rfl,hqa,hqb⟩:=hV1.fK;clear hqa hqb;obtain⟨A2,c2,rfl,hqa,hqb⟩:=hV2.fK;clear hqa hqb;have hfn:=hF.1;have nN1:=(c_.1 hfn).2.1;have nd0:=(c_.1 hfn).1;have D0_1:∀x∈g1,x∉g0:=fun x hx hy=>(c_.1 hfn).2.2 x hy x (by simp[hx]) rfl
 have D1_0:∀x∈g0,x∉g1:=fun x hx hy=>D0_1 x hy hx
 have D0_2:∀x∈g2,x∉g0:=fun x hx hy=>(c_.1 hfn).2.2 x hy x (by simp[hx]) rfl
 have D2_0:∀x∈g0,x∉g2:=fun x hx hy=>D0_2 x hy hx
 have nN2:=(c_.1 nN1).2.1;have nd1:=(c_.1 nN1).1;have D1_2:∀x∈g2,x∉g1:=fun x hx hy=>(c_.1 nN1).2.2 x hy x (by simp[hx]) rfl
 have D2_1:∀x∈g1,x∉g2:=fun x hx hy=>D1_2 x hy hx
 have nd2:=nN2;have Fr0:gV w 0 g0:=hF.sub nd0 (fun y hy=>by first|exact hy|simp[hy]);have lt0:∀y∈g0,y<w.heap.size:=R.lt hV0;have hs0:w.heap.size∉g0:=fun hy=>r_ _ (lt0 _ hy)
 have Fr1:gV w 0 g1:=hF.sub nd1 (fun y hy=>by first|exact hy|simp[hy]);have lt1:∀y∈g1,y<w.heap.size:=R.lt hV1;have hs1:w.heap.size∉g1:=fun hy=>r_ _ (lt1 _ hy)
 have Fr2:gV w 0 g2:=hF.sub nd2 (fun y hy=>by first|exact hy|simp[hy]);have lt2:∀y∈g2,y<w.heap.size:=R.lt hV2;have hs2:w.heap.size∉g2:=fun hy=>r_ _ (lt2 _ hy)
 clear hR
 go_enter Tryz.func9,Tryz.ntmps9
 go_wp2_with fail
 refine(hM0 _ _ _ _ (hV0.below ((m_ _ _).alloc (l_ _) _)) (Fr0.below lt0 ((m_ _ _).alloc (l_ _) _)) (by omega) (by first|omega|(push_cast;omega))).mono ?_;rintro e w1 ⟨rfl,hS1,hb1⟩;obtain⟨r1,hz1⟩:Row w1 w.heap.size _ _∧w.heap.size+1≤w1.heap.size:=⟨(Row.new w _ _).touch hb1 hs0,s_ (by simp) hb1.size⟩
 have T1:Touch ([]++g0) w w1:=(Touch.of_below ((m_ _ _).alloc (l_ _) _)).trans (hb1.mono fun y hy=>f_ _ hy);have kk1:=r1.cell;clear hb1
 go_wp2_with fail
 refine(hM1 _ _ _ _ ((hV1.touch T1 (fun y hy=>jA (jg) (D0_1 y hy)))) (Fr1.touch lt1 T1) (by omega) (by first|omega|(push_cast;omega))).mono ?_;rintro e w2 ⟨rfl,hS2,hb2⟩;have r2:=r1.touch hb2 hs1;have T2:Touch (([]++g0)++g1) w w2:=(T1.mono fun y hy=>h_ _ hy).trans (hb2.mono fun y hy=>f_ _ hy);have hS1x:=hS1.touch hb2 (fun y hy=>D1_0 y hy);have kk2:=r2.cell;clear hb2 kk1
 go_wp2_with fail
 refine(hM2 _ _ _ _ ((hV2.touch T2 (fun y hy=>jA (jA (jg) (D0_2 y hy)) (D1_2 y hy)))) (Fr2.touch lt2 T2) (by omega) (by first|omega|(push_cast;omega))).mono ?_;rintro e w3 ⟨rfl,hS3,hb3⟩;have r3:=r2.touch hb3 hs2;have T3:Touch ((([]++g0)++g1)++g2) w w3:=(T2.mono fun y hy=>h_ _ hy).trans (hb3.mono fun y hy=>f_ _ hy);have hS1xx:=hS1x.touch hb3 (fun y hy=>D2_0 y hy);have hS2x:=hS2.touch hb3 (fun y hy=>D2_1 y hy);have kk3:=r3.cell;clear hb3 kk2
 go_wp2_with fail
 go_ret
 refine⟨fU (by have hq:=GVal.wu x;omega),GVal.QX (by push_cast;first|rfl|omega) (by push_cast;first|rfl|omega) (by push_cast;first|rfl|omega) hS1xx hS2x hS3,T3.mono (fun y hy=> ?_)⟩;simp only[n_,p_,false_or]at hy⊢;rcases hy with(h|h)|h<;>simp[h]
theorem GVal.mark(x:GVal):Ea Tryz.prog 9 x.toD:=GVal.RI x (IW _) (qC _) (xI _)
theorem GVal.RP(x:GVal)(hM0:gQ Tryz.prog 45 (x.list.map GVal.toD))(hM1:gQ Tryz.prog 46 (x.cols.map ls))(hM2:gQ Tryz.prog 47 (x.rows.map GRow.toD)):Eb Tryz.prog 10 x.toD:=by
 intro w fp cs k hR hk0 hk1;rw[GVal.wu]at hk1;have hk2:k+(D.cnts (x.list.map GVal.toD):Int)+(D.cnts (x.cols.map ls):Int)+(D.cnts (x.rows.map GRow.toD):Int)≤4611686018427387904:=by push_cast at hk1;omega
 clear hk1;obtain⟨a4,a5,a6,v0,v1,v2,g0,g1,g2,e0,e1,e2,rfl,rfl,hV0,hV1,hV2⟩:=GVal.LP hR;have d0:k=a4:=by push_cast at e0;omega
 have d1:a5=k+(D.cnts (x.list.map GVal.toD):Int):=by push_cast at e1;omega
 have d2:a6=k+(D.cnts (x.list.map GVal.toD):Int)+(D.cnts (x.cols.map ls):Int):=by push_cast at e2;omega
 clear e0 e1 e2;subst d0 d1 d2;obtain⟨A0,c0,rfl,hqa,hqb⟩:=hV0.form;simp only[D.fM,a_]at hqa hV0 hR⊢;clear hqa hqb;obtain⟨A1,c1,rfl,hqa,hqb⟩:=hV1.form;simp only[D.fM,a_]at hqa hV1 hR⊢;clear hqa hqb;obtain⟨A2,c2,rfl,hqa,hqb⟩:=hV2.form;simp only[D.fM,a_]at hqa hV2 hR⊢;clear hqa hqb;clear hR
 go_enter Tryz.func10,Tryz.ntmps10
 go_wp2_with fail
 refine(hM0 _ _ _ _ (hV0.below ((m_ _ _).alloc (l_ _) _)) (by omega) (by first|omega|(push_cast;omega))).mono ?_;rintro e w1 ⟨rfl,hb1⟩;obtain⟨r1,hz1,G1⟩:=J4 hb1;have kk1:=r1.cell;clear hb1
 go_wp2_with fail
 refine(hM1 _ _ _ _ (hV1.below G1) (by omega) (by first|omega|(push_cast;omega))).mono ?_;rintro e w2 ⟨rfl,hb2⟩;have r2:=r1.below hb2;have hz2:w.heap.size+1≤w2.heap.size:=s_ hz1 hb2.size;have G2:Below w.heap.size w w2:=G1.trans (hb2.mono (by omega));have kk2:=r2.cell;clear hb2 kk1
 go_wp2_with fail
 refine(hM2 _ _ _ _ (hV2.below G2) (by omega) (by first|omega|(push_cast;omega))).mono ?_;rintro e w3 ⟨rfl,hb3⟩;have r3:=r2.below hb3;have hz3:w.heap.size+1≤w3.heap.size:=s_ hz2 hb3.size;have G3:Below w.heap.size w w3:=G2.trans (hb3.mono (by omega));have kk3:=r3.cell;clear hb3 kk2
 go_wp2_with fail
 go_ret
 exact⟨fU (by have hq:=GVal.wu x;omega),G3⟩
theorem GVal.held(x:GVal):Eb Tryz.prog 10 x.toD:=GVal.RP x (IX _) (qE _) (xJ _)
section
variable{w w':World}{d:D}{f:List Nat}{cs:List Value}{o:Obj}{B b:Nat}
end
end Go.Proofs.YtfengkmaphbofaaGreatDoor
