/-
  Texts joined: Aff Dra Afp.
-/
import Derived.Test.YtfjmoicellpnhaaGreatJZ
set_option maxHeartbeats 16000000
set_option maxRecDepth 8000
namespace Go.Proofs.YtfjmoicellpnhaaGreat
open Go.RowKit
open List renaming mem_append→a_,length_append→c_,length_cons→d_,length_map→h_,length_nil→i_,append_nil→j_,mem_cons→k_
open Int renaming toNat_of_nonneg→b_,toNat_natCast→f_
open Nat renaming zero_le→e_
set_option linter.unusedSimpArgs false
set_option linter.unusedVariables false
attribute [local irreducible] sw sd sn
noncomputable def qm(l:List GPart)(z:Int):List Nat:=if 0≤z∧z.toNat<l.length then z.toNat::cl l.length (nrI l true) z else []
noncomputable def l7(l:List GPart)(o:List Int):Nat→List Nat
 |0=> []
 |k+1=>l7 l o k++(match o[k]? with|some z=>qm l z|none=> [])
theorem Jd(l:List GPart)(o:List Int){k:Nat}(h:k<o.length):l7 l o (k+1)=l7 l o k++qm l o[k]:=by rw[l7,List.getElem?_eq_getElem h]
theorem ZP(l:List GPart)(z:Int):(qm l z).length≤l.length+1:=by
 unfold qm
 split
 ·have:=IK l.length (nrI l true) z
  simp only[d_];omega
 ·simp
theorem Je(l:List GPart)(z:Int):∀x∈qm l z,x<l.length:=by
 intro x hx
 unfold qm at hx
 split at hx
 ·next h=>
  rcases k_.1 hx with rfl|hx
  ·exact h.2
  ·exact ag8 x hx
 ·cases hx
theorem Jc(l:List GPart)(o:List Int):∀k,∀x∈l7 l o k,x<l.length
 |0=>by simp[l7]
 | k+1=>by
   intro x hx
   rw[l7]at hx
   rcases a_.1 hx with hx|hx
   ·exact Jc l o k x hx
   ·split at hx
    ·exact Je l _ x hx
    ·cases hx
theorem LU(l:List GPart)(o:List Int):∀k,(l7 l o k).length≤k*(l.length+1)
 |0=>by simp[l7]
 | k+1=>by
   rw[l7,c_,Nat.succ_mul]
   have:=LU l o k
   have:(match o[k]? with|some z=>qm l z|none=> []).length≤l.length+1:=by
    split
    ·exact ZP l _
    ·simp
   omega
theorem SY(l:List GPart)(o:List Int)(hn:l.length≤1048576)(ho:o.length≤1048576){k:Nat}(hk:k≤o.length):(l7 l o k).length≤1099512676352:=by
 have h1:=LU l o k
 have h2:k*(l.length+1)≤1048576*1048577:=Nat.mul_le_mul (by omega) (by omega)
 omega
theorem FX{P:Program}{f:Nat}{ds l:List D}{e s:Nat}(h:dA P f ds l e s):aV P f ds (.c false [.sl true l]):=fun w vs hr ht=>(h w vs hr ht).mono fun en w' ⟨v,cs,f,he,h1,h2,h3,h4⟩=>
 ⟨v,he,⟨⟨_,Sl.nI h1 h2,fun b hb=>by
   have hB:w.heap.size≤b:=by
    rcases a_.1 hb with hb|hb
    ·exact(bK.lt h1 b (by simpa using hb)).1
    ·exact(h3 b hb).2
   have:=E8 w.heap.size b (Or.inl hB)
   exact⟨this.1,fun _=>this.2⟩⟩,trivial⟩,h4⟩
def Ea :IC:=(zd_ [zz_ 4 (.mov (.k (.slice none 0 0)))] (zd_ [zz_ 7 (.brow true 3 1 0 false []),zw_ 5 7] (.seq (zd_ [zk_ 6 0] (.block 0 (.loop (.seq (zd_ [zw_ 8 6,zw_ 9 1,zf_ 10 false 9,zl_ 11 .lss 8 10] (.cond (.t 11) .skip (.exit 0))) (.seq (.block 1 (zd_ [zw_ 14 1,zw_ 15 6,ze_ 16 1 14 15,zs_ 17 1 16,zw_ 18 0,zf_ 19 false 18,zm_ 20 .sub 19 1,zz_ 21 (.call 60 [(.t 17),(.k (.int .i64 0)),(.t 20)])] (.cond (.t 21) (.reg true [zw_ 22 5,zw_ 23 1,zw_ 24 6,ze_ 25 1 23 24,zs_ 26 1 25,zz_ 27 (.brow false 3 1 1 false [(.t 26)]),zz_ 28 (.app 3 1 (.t 22) (.t 27)),zw_ 29 0,zw_ 30 1,zw_ 31 6,ze_ 32 1 30 31,zs_ 33 1 32,zp_ 34 40 29 33,zz_ 35 (.app 3 1 (.t 28) (.t 34)),zw_ 5 35]) .skip))) (.reg false [zw_ 12 6,zm_ 13 .add 12 1,zw_ 6 13])))))) (zd_ [zw_ 36 5,zq_ 37 61 36,zw_ 4 37] .ret))))
theorem H6 :ay Tryz.prog (Tryz.f45.body.getD .skip)=some Ea:=by kernel_rfl
theorem zV(l:List GPart)(o:List Int)(hw:l.length+D.wts (l.map GPart.toD)≤1048576)(ho:o.length≤1048576):dA Tryz.prog 45 [.sl (l.map GPart.toD),.sl (o.map li)] ((jC l.length (l7 l o o.length)).map ln) 3 1:=by
 have hn:l.length≤1048576:=by omega
 refine fK (fn:=Tryz.f45) (t:=4) (hc:=H6) (h:= ?_)
 unfold Ea;refine zb_ ?_
 change AWP _ _ _ (st0 38 _)
 refine sS trivial ?_
 repeat' (first|(refine hq_ ?_;clear hK K)|refine ca_ ?_ ?_|((with_reducible refine ak ?_);refine ss (aho @aY (aho @aU (aho @aH @GPart.el))) ?_)|((with_reducible refine bf ?_);refine sx (aho @aY (aho @aU (aho @aH @GPart.el))) ?_)|refine nv ?_|(refine rD ?_;intro K hK)|(refine c2_ ?_ ?_<;>(intro hb hb';try(exfalso;omega)))|exact aA|exact au)
 refine aW (X:=Nat×Nat) (fun q=> [.k,.k,.d,.d,.d,.v (.c false [.own 0 q.2]),.v (.c false [.raw (.int .i64 (q.1:Nat))]),.d,.d,.d,.d,.d,.d,.d,.d,.d,.d,.d,.d,.d,.d,.d,.d,.d,.d,.d,.d,.d,.d,.d,.d,.d,.d,.d,.d,.d,.d,.d]) (fun q=> [⟨(l7 l o q.1).map ln,3,1,q.2,true⟩]) (fun q bs=>bs) (fun q=>q.1≤o.length) (fun q=>o.length - q.1) (0,0) (e_ _) ?_ ?_
 ·simp[aO,aX,aK,aN,AV.fits,AC.fits,FB,aG,l7]
 rintro⟨k,v⟩ hk
 have hk':k≤o.length:=hk
 clear hk
 have hbd:=SY l o hn ho hk'
 have hlt:=Jc l o k
 simp only[FB,aG]
 by_cases hlk:k<o.length
 ·have hs:=Jd l o hlk
  have hau:=FX (Dq l o[k] hw)
  have hcl:=IK l.length (nrI l true) o[k]
  by_cases hin:0≤o[k]∧o[k].toNat<l.length
  ·have h0:=hin.1
   have h1:=hin.2
   have hinB:inB o[k] 0 ((l.length:Int) - 1)=true:=by simp[inB];omega
   have hz:ln o[k].toNat=li o[k]:=by unfold ln;rw[b_ h0]
   unfold qm at hs
   rw[if_pos hin]at hs
   obtain⟨c,hc0⟩:∃c,cl l.length (nrI l true) o[k]=c:=⟨_,rfl⟩
   rw[hc0]at hs hau hcl
   repeat' (first|(refine hq_ ?_;clear hK K)|refine ca_ ?_ ?_|((with_reducible refine aB ?_);first|(refine dw (sK o[k] 0 ((l.length:Int) - 1)) trivial ?_ ?_)|(refine dw hau trivial ?_ ?_))|((with_reducible refine eX ?_);first|(refine bT (sK o[k] 0 ((l.length:Int) - 1)) trivial ?_ ?_)|(refine bT hau trivial ?_ ?_))|((with_reducible refine ak ?_);refine ss (aho @aY (aho @aU (aho @aH (aho @GPart.el hinB)))) ?_)|((with_reducible refine bf ?_);refine sx (aho @aY (aho @aU (aho @aH (aho @GPart.el hinB)))) ?_)|refine nv ?_|(refine rD ?_;intro K hK)|(refine c2_ ?_ ?_<;>(intro hb hb';try(exfalso;omega)))|exact aA|exact au)
   all_goals first
    |(simp only[h_,c_,d_,i_];omega)
    | (refine aS (k+1,v+1+1) ?_ (show k+1≤o.length by omega) (show o.length - (k+1)<o.length - k by omega)
       simp[aO,aX,aK,aN,AV.fits,AC.fits,FB,aG,hs,hz,li])
  ·have hinB:inB o[k] 0 ((l.length:Int) - 1)=false:=by simp[inB];omega
   unfold qm at hs
   rw[if_neg hin,j_]at hs
   repeat' (first|(refine hq_ ?_;clear hK K)|refine ca_ ?_ ?_|((with_reducible refine aB ?_);first|(refine dw (sK o[k] 0 ((l.length:Int) - 1)) trivial ?_ ?_)|(refine dw hau trivial ?_ ?_))|((with_reducible refine eX ?_);first|(refine bT (sK o[k] 0 ((l.length:Int) - 1)) trivial ?_ ?_)|(refine bT hau trivial ?_ ?_))|((with_reducible refine ak ?_);refine ss (aho @aY (aho @aU (aho @aH (aho @GPart.el hinB)))) ?_)|((with_reducible refine bf ?_);refine sx (aho @aY (aho @aU (aho @aH (aho @GPart.el hinB)))) ?_)|refine nv ?_|(refine rD ?_;intro K hK)|(refine c2_ ?_ ?_<;>(intro hb hb';try(exfalso;omega)))|exact aA|exact au)
   all_goals
    refine aS (k+1,v) ?_ (show k+1≤o.length by omega) (show o.length - (k+1)<o.length - k by omega)
    simp[aO,aX,aK,aN,AV.fits,AC.fits,FB,aG,hs]
 ·obtain rfl:k=o.length:=by omega
  repeat' (first|(refine hq_ ?_;clear hK K)|refine ca_ ?_ ?_|((with_reducible refine aB ?_);first|(refine bG (CQ l.length (l7 l o o.length) hlt hn (by omega)) (aU _) ?_ ?_))|((with_reducible refine ak ?_);refine ss (aho @aY (aho @aU (aho @aH @GPart.el))) ?_)|((with_reducible refine bf ?_);refine sx (aho @aY (aho @aU (aho @aH @GPart.el))) ?_)|refine nv ?_|(refine rD ?_;intro K hK)|(refine c2_ ?_ ?_<;>(intro hb hb';try(exfalso;omega)))|exact aA|exact au)
  exact bC ⟨1,_,_,rfl,rfl,rfl,rfl,rfl,rfl,Or.inl rfl⟩
def Eb :IC:=(zd_ [zz_ 4 (.mov (.k (.slice none 0 0)))] (zd_ [zz_ 8 (.brow true 3 1 0 false []),zw_ 5 8] (.seq (zd_ [zw_ 9 1,zf_ 10 false 9,zk_ 11 0] (.block 0 (.loop (zd_ [zl_ 12 .lss 11 10] (.seq (.cond (.t 12) .skip (.exit 0)) (.seq (.block 1 (zd_ [ze_ 13 1 9 11,zs_ 14 1 13,zw_ 7 14] (zd_ [zw_ 15 7,zm_ 16 .geq 15 0,zw_ 17 16,zv_ 18 17 7,zv_ 19 17 0,zy_ 20 17 (.len false (.t 19)),zy_ 21 17 (.bin .lss (.t 18) (.t 20)),zh_ 22 17 21 false] (.cond (.t 22) (.reg false [zw_ 23 5,zw_ 24 7,zz_ 25 (.brow false 3 1 1 false [(.t 24)]),zz_ 26 (.app 3 1 (.t 23) (.t 25)),zw_ 27 0,zw_ 28 7,zp_ 29 39 27 28,zz_ 30 (.app 3 1 (.t 26) (.t 29)),zw_ 5 30]) .skip)))) (.reg false [zm_ 31 .add 11 1,zw_ 11 31]))))))) (zd_ [zw_ 32 5,zq_ 33 75 32,zw_ 4 33] .ret))))
theorem H7 :ay Tryz.prog (Tryz.f44.body.getD .skip)=some Eb:=by kernel_rfl
theorem zW(l:List GPart)(o:List Int)(hw:l.length+D.wts (l.map GPart.toD)≤1048576)(ho:o.length≤1048576):dA Tryz.prog 44 [.sl (l.map GPart.toD),.sl (o.map li)] ((jC l.length (l7 l o o.length)).map ln) 3 1:=by
 have hn:l.length≤1048576:=by omega
 refine fK (fn:=Tryz.f44) (t:=4) (hc:=H7) (h:= ?_)
 unfold Eb;refine zb_ ?_
 change AWP _ _ _ (st0 34 _)
 refine sS trivial ?_
 repeat' (first|(refine rg_ ?_;intro K hK)|(refine hq_ ?_;clear hK K)|refine ca_ ?_ ?_|refine gq_ ?_|(refine c2_ ?_ ?_<;>(intro hb hb';try(exfalso;omega)))|((with_reducible refine ak ?_);refine ss (aho @aY (aho @aU (aho @aH @GPart.el))) ?_)|refine nv ?_|exact aA|exact au)
 refine aW (X:=Nat×Nat) (fun q=> [.k,.d,.d,.d,.d,.v (.c false [.own 0 q.2]),.d,.d,.d,.k,.k,.v (.c false [.raw (.int .i64 (q.1:Nat))]),.d,.d,.d,.d,.d,.d,.d,.d,.d,.d,.d,.d,.d,.d,.d,.d,.d,.d,.d,.d,.d,.d]) (fun q=> [⟨(l7 l o q.1).map ln,3,1,q.2,true⟩]) (fun q bs=>bs) (fun q=>q.1≤o.length) (fun q=>o.length - q.1) (0,0) (e_ _) ?_ ?_
 ·simp[aO,aX,aK,aN,AV.fits,AC.fits,FB,aG,l7]
 rintro⟨k,v⟩ hk
 have hk':k≤o.length:=hk
 clear hk
 have hbd:=SY l o hn ho hk'
 have hlt:=Jc l o k
 simp only[FB,aG]
 by_cases hlk:k<o.length
 ·have hs:=Jd l o hlk
  have hau:=FX (Dt l o[k] hw)
  have hcl:=IK l.length (nrI l true) o[k]
  by_cases hin:0≤o[k]∧o[k].toNat<l.length
  ·have h0:=hin.1
   have h1:=hin.2
   have hinB:inB o[k] 0 ((l.length:Int) - 1)=true:=by simp[inB];omega
   have hz:ln o[k].toNat=li o[k]:=by unfold ln;rw[b_ h0]
   unfold qm at hs
   rw[if_pos hin]at hs
   obtain⟨c,hc0⟩:∃c,cl l.length (nrI l true) o[k]=c:=⟨_,rfl⟩
   rw[hc0]at hs hau hcl
   repeat' (first|(refine rg_ ?_;intro K hK)|(refine hq_ ?_;clear hK K)|refine ca_ ?_ ?_|refine gq_ ?_|(refine c2_ ?_ ?_<;>(intro hb hb';try(exfalso;omega)))|((with_reducible refine aB ?_);first|(refine dw hau trivial ?_ ?_))|((with_reducible refine eX ?_);first|(refine bT hau trivial ?_ ?_))|((with_reducible refine ak ?_);refine ss (aho @aY (aho @aU (aho @aH (aho @GPart.el hinB)))) ?_)|refine nv ?_|exact aA|exact au)
   all_goals first
    |(simp only[h_,c_,d_,i_];omega)
    | (refine aS (k+1,v+1+1) ?_ (show k+1≤o.length by omega) (show o.length - (k+1)<o.length - k by omega)
       simp[aO,aX,aK,aN,AV.fits,AC.fits,FB,aG,hs,hz,li])
  ·have hinB:inB o[k] 0 ((l.length:Int) - 1)=false:=by simp[inB];omega
   unfold qm at hs
   rw[if_neg hin,j_]at hs
   repeat' (first|(refine rg_ ?_;intro K hK)|(refine hq_ ?_;clear hK K)|refine ca_ ?_ ?_|refine gq_ ?_|(refine c2_ ?_ ?_<;>(intro hb hb';try(exfalso;omega)))|((with_reducible refine aB ?_);first|(refine dw hau trivial ?_ ?_))|((with_reducible refine eX ?_);first|(refine bT hau trivial ?_ ?_))|((with_reducible refine ak ?_);refine ss (aho @aY (aho @aU (aho @aH (aho @GPart.el hinB)))) ?_)|refine nv ?_|exact aA|exact au)
   all_goals
    refine aS (k+1,v) ?_ (show k+1≤o.length by omega) (show o.length - (k+1)<o.length - k by omega)
    simp[aO,aX,aK,aN,AV.fits,AC.fits,FB,aG,hs]
 ·obtain rfl:k=o.length:=by omega
  repeat' (first|(refine rg_ ?_;intro K hK)|(refine hq_ ?_;clear hK K)|refine ca_ ?_ ?_|refine gq_ ?_|(refine c2_ ?_ ?_<;>(intro hb hb';try(exfalso;omega)))|((with_reducible refine aB ?_);first|(refine bG (Ci l.length (l7 l o o.length) hlt hn (by omega)) (aU _) ?_ ?_))|((with_reducible refine ak ?_);refine ss (aho @aY (aho @aU (aho @aH @GPart.el))) ?_)|refine nv ?_|exact aA|exact au)
  exact bC ⟨1,_,_,rfl,rfl,rfl,rfl,rfl,rfl,Or.inl rfl⟩
def KQ :IC:=(zd_ [zz_ 2 (.mov (.k (.slice none 0 0))),zz_ 3 (.mov (.k (.slice none 0 0)))] (zd_ [zw_ 5 0,zq_ 6 56 5,zw_ 4 6] (.seq (.regN true [] [zw_ 7 4,zq_ 8 65 7,zw_ 9 4,zn_ 10 76 9 10,zm_ 11 .sub 10 1,zw_ 12 4,zn_ 13 76 12 8,zz_ 14 (.brow false 3 1 2 false [(.t 11),(.t 13)]),zw_ 15 4,zn_ 16 76 15 3,zz_ 17 (.lsl 1 (.t 14) none (some (.t 16))),zw_ 2 8,zw_ 3 17]) .ret)))
theorem NQ :ay Tryz.prog (Tryz.f43.body.getD .skip)=some KQ:=by kernel_rfl
theorem acZ(l:List UInt8)(n:Bool)(hl:l.length≤1048576):jT Tryz.prog 43 [.c false [.sl n (l.map lu8)]] [] [] (fun r os' bs'=>∃(ps:List GPart) (i h:Int),ps.length≤9∧(∀p∈ps,p.toD.wt≤60000)∧(∃os:List Int,os.length≤2∧r= .tup [(false,[.sl false (ps.map pF)]),(false,[.sl true (os.map li)])])∧os'= []∧bs'= [[.sl false (l.map lu8),.raw (.int .i64 i),.raw (.int .i64 h)]]):=by
 refine adf (fn:=Tryz.f43) (t:=2) (u:=3) (hc:=NQ) (h:= ?_)
 unfold KQ;refine zb_ ?_
 change dK _ _ _ _ (stS 18 _ _ _)
 refine sS tdX ?_
 repeat' (first|(refine rg_ ?_;intro K hK)|((first|(with_reducible refine aF 0 false bF ?_)|(refine aF 0 false (by simp[eu,St.ev]) ?_));intro K hK)|refine nN ?_|(refine hq_ ?_;clear hK K)|refine ca_ ?_ ?_|((with_reducible refine aB ?_);first|((refine Ei (afx l _ _ _ hl (by simp[AC.fits]) (by simp[AC.fits])) ?_);rintro _ _ _ ⟨rfl,rfl,h,rfl⟩)|(refine aC false (h:=(J5 l _ _ (by first|assumption|omega) (by first|assumption|omega) hl)) (hK:= ?_);rintro _ _ _ ⟨⟨ps,hp1,hp2,rfl⟩,rfl,i,h,hi0,hi1,rfl⟩)|(refine aC false (h:=(lM l _ _ 10 (by first|assumption|omega) (by first|assumption|omega) hl (by decide) (by decide))) (hK:= ?_);rintro _ _ _ ⟨⟨k,hk,rfl⟩,rfl,i,h,hi0,hi1,rfl⟩)|(refine aC false (h:=(lM l _ _ 8 (by first|assumption|omega) (by first|assumption|omega) hl (by decide) (by decide))) (hK:= ?_);rintro _ _ _ ⟨⟨m,hm,rfl⟩,rfl,i,h,hi0,hi1,rfl⟩)|(refine aC false (h:=(lM l _ _ 3 (by first|assumption|omega) (by first|assumption|omega) hl (by decide) (by decide))) (hK:= ?_);rintro _ _ _ ⟨⟨q,hq,rfl⟩,rfl,i,h,hi0,hi1,rfl⟩))|((with_reducible refine fG ?_);first|(refine iy false (h:=(J5 l _ _ (by first|assumption|omega) (by first|assumption|omega) hl)) (hne:=⟨_,[],bZ l 0 0,⟨⟨[],by simp,by simp,rfl⟩,rfl,0,0,by omega,by omega,rfl⟩,rfl⟩) (hr:= ?_);rintro _ _ _ ⟨⟨ps,hp1,hp2,rfl⟩,rfl,i,h,hi0,hi1,rfl⟩)|(refine iy false (h:=(lM l _ _ 10 (by first|assumption|omega) (by first|assumption|omega) hl (by decide) (by decide))) (hne:=⟨_,[],bZ l 0 0,⟨⟨0,by decide,rfl⟩,rfl,0,0,by omega,by omega,rfl⟩,rfl⟩) (hr:= ?_);rintro _ _ _ ⟨⟨k,hk,rfl⟩,rfl,i,h,hi0,hi1,rfl⟩)|(refine iy false (h:=(lM l _ _ 8 (by first|assumption|omega) (by first|assumption|omega) hl (by decide) (by decide))) (hne:=⟨_,[],bZ l 0 0,⟨⟨0,by decide,rfl⟩,rfl,0,0,by omega,by omega,rfl⟩,rfl⟩) (hr:= ?_);rintro _ _ _ ⟨⟨m,hm,rfl⟩,rfl,i,h,hi0,hi1,rfl⟩)|(refine iy false (h:=(lM l _ _ 3 (by first|assumption|omega) (by first|assumption|omega) hl (by decide) (by decide))) (hne:=⟨_,[],bZ l 0 0,⟨⟨0,by decide,rfl⟩,rfl,0,0,by omega,by omega,rfl⟩,rfl⟩) (hr:= ?_);rintro _ _ _ ⟨⟨q,hq,rfl⟩,rfl,i,h,hi0,hi1,rfl⟩))|((with_reducible refine ak ?_);refine ss tdE ?_)|((with_reducible refine bf ?_);refine sx tdE ?_)|refine nv ?_|(refine c2_ ?_ ?_<;>(intro hb hb';try(exfalso;omega)))|exact aA|exact au)
 all_goals exact⟨_,_,rfl,rfl,e_ _,e_ _,ps,_,_,hp1,hp2,⟨[(k:Int) - 1,(m:Int)].take q,by simp;omega,by simp[li]⟩,rfl,rfl⟩
end Go.Proofs.YtfjmoicellpnhaaGreat
namespace Go.Proofs.YtfjmoicellpnhaaGreat
open Go.RowKit
open List renaming mem_append→a_,length_append→c_,length_cons→d_,length_map→h_,length_nil→i_,append_nil→j_,mem_cons→k_
open Int renaming toNat_of_nonneg→b_,toNat_natCast→f_
open Nat renaming zero_le→e_
set_option linter.unusedSimpArgs false
set_option linter.unusedVariables false
theorem xZ{l:List GPart}{z:Int}{x:Nat}:x∈qm l z↔(0≤z∧z.toNat<l.length)∧(x=z.toNat∨(x<l.length∧Rch (nrI l true) z x)):=by
 unfold qm
 split
 ·next h=>rw[k_,abJ];exact⟨fun k=>⟨h,k⟩,fun k=>k.2⟩
 ·next h=>exact⟨fun k=>by simp at k,fun k=>absurd k.1 h⟩
theorem Kr{l:List GPart}{o:List Int}{x:Nat}:∀k,k≤o.length→(x∈l7 l o k↔∃z∈o.take k,x∈qm l z)
 |0,_=>by simp[l7]
 | k +1,h=>by
   rw[Jd l o (by omega:k<o.length),a_,Kr k (by omega),List.take_succ_eq_append_getElem (by omega:k<o.length)]
   constructor
   ·rintro(⟨z,h1,h2⟩|h1)
    ·exact⟨z,List.mem_append_left _ h1,h2⟩
    ·exact⟨_,List.mem_append_right _ (by simp),h1⟩
   ·rintro⟨z,h1,h2⟩
    rcases a_.1 h1 with h1|h1
    ·exact Or.inl ⟨z,h1,h2⟩
    ·rw[List.mem_singleton]at h1
     subst h1
     exact Or.inr h2
noncomputable def yO(l:List GPart)(o:List Int):List Nat:=jC l.length (l7 l o o.length)
theorem rG{l:List GPart}{o:List Int}{x:Nat}:x∈yO l o↔∃z∈o,x∈qm l z:=by
 unfold yO
 rw[wS,Kr _ (Nat.le_refl _),List.take_length]
 exact⟨fun h=>h.2,fun h=>⟨by obtain⟨z,_,h⟩:=h;exact Je l z x h,h⟩⟩
theorem xK(l:List GPart)(o:List Int):(yO l o).Pairwise (· < ·):=jU _ _
theorem ady(l:List GPart)(o:List Int):(yO l o).length≤l.length:=qZ _ _
theorem YQ{F:Int→List Nat}{z:Int}{x y:Nat}(h:Rch F z x)(k:Rch F (x:Int) y):Rch F z y:=by
 induction k with
 |one k=>exact .more h k
 |more _ k ih=>exact .more ih k
theorem S9{l:List GPart}{z:Int}{x y:Nat}(h:x∈qm l z)(k:Rch (nrI l true) (x:Int) y):y∈qm l z:=by
 obtain⟨h1,h2⟩:=xZ.1 h
 refine xZ.2 ⟨h1,Or.inr ⟨(ad1 k).1, ?_⟩⟩
 rcases h2 with rfl|h2
 ·rw[b_ h1.1]at k;exact k
 ·exact YQ h2.2 k
theorem adx(l:List GPart)(o:List Int):yO l (lnz (yO l o))=yO l o:=by
 refine uO (xK _ _) (xK _ _) (fun x=> ?_)
 constructor
 ·intro h
  obtain⟨z,h1,h2⟩:=rG.1 h
  obtain⟨y,hy,rfl⟩:=Aw.1 h1
  obtain⟨h3,h4⟩:=xZ.1 h2
  rcases h4 with h4|h4
  ·rw[f_]at h4
   rw[h4];exact hy
  ·obtain⟨z',g1,g2⟩:=rG.1 hy
   exact rG.2 ⟨z',g1,S9 g2 h4.2⟩
 ·intro h
  refine rG.2 ⟨(x:Int),Aw.2 ⟨x,h,rfl⟩,xZ.2 ⟨⟨by omega, ?_⟩,Or.inl (by simp)⟩⟩
  obtain⟨z,_,h2⟩:=rG.1 h
  rw[f_]
  exact Je l z x h2
theorem agF{l:List GPart}{o:List Int}{k j:Nat}(hk:k<l.length)(hj:j∈duI l (k:Int))(h:decide ((j:Int)∈lnz (yO l o))=true):decide ((k:Int)∈lnz (yO l o))=true:=by
 rw[decide_eq_true_eq,Aw]at h⊢
 obtain⟨x,hx,e⟩:=h
 obtain rfl:x=j:=by omega
 obtain⟨z,h1,h2⟩:=rG.1 hx
 refine⟨k,rG.2 ⟨z,h1,S9 h2 (.one (show k∈usI l (x:Int) from WV.2 ⟨hk, ?_⟩))⟩,rfl⟩
 rw[mO,List.contains_iff_mem,← pV]
 exact hj
theorem ZQ(l:List GPart)(o:List Int)(hw:l.length+D.wts (l.map GPart.toD)≤1048576)(ho:o.length≤1048576):aV Tryz.prog 45 [.sl (l.map pF),.sl (o.map li)] (.c false [.sl true ((lnz (yO l o)).map li)]):=by
 rw[CP]
 exact aV.pF (zi (zV l o hw ho))
theorem LV(l:List GPart)(o:List Int)(hw:l.length+D.wts (l.map GPart.toD)≤1048576)(ho:o.length≤1048576):aV Tryz.prog 44 [.sl (l.map pF),.sl (o.map li)] (.c false [.sl true ((lnz (yO l o)).map li)]):=by
 rw[CP]
 exact aV.pF (zi (zW l o hw ho))
end Go.Proofs.YtfjmoicellpnhaaGreat
