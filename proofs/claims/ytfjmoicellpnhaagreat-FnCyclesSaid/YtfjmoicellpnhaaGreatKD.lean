/-
  Texts joined: Thru Small Cyp.
-/
import Derived.Test.YtfjmoicellpnhaaGreatKC
import Derived.Test.YtfjmoicellpnhaaGreatJZ
set_option maxHeartbeats 8000000
namespace Go.Proofs.YtfjmoicellpnhaaGreat
open Go.RowKit
open Nat renaming lt_or_ge→a_,zero_le→b_,le_refl→f_
open Or renaming inl→c_,inr→h_
open List renaming getElem_mem→d_,length_append→e_,length_cons→g_,length_map→i_,length_nil→j_
set_option linter.unusedSimpArgs false
set_option linter.unusedVariables false
attribute [local irreducible] sw sd sn
theorem JU{f:Nat→List Nat}{i:Nat}(h1:1≤dst f i i):(wkL f i (dst f i i)).Nodup:=by
 unfold wkL List.Nodup
 rw[List.pairwise_map]
 refine List.Pairwise.imp_of_mem ?_ (List.nodup_range (n:=dst f i i))
 intro a b ha hb hne e
 rw[List.mem_range]at ha hb
 have ha':=(Cb h1 a ha).1
 have hb':=(Cb h1 b hb).1
 rw[e]at ha'
 omega
theorem Iz{f:Nat→List Nat}{N i:Nat}(hF:∀u,∀v∈f u,v<N)(hi:i<N)(h1:1≤dst f i i):dst f i i≤N:=by
 have:=o8 (JU h1) (Z8 hF hi h1 (f_ _))
 rwa[Ac]at this
noncomputable def cyc(l:List GPart)(z:Int):List Nat:=if onC l z then wkL (du l) z.toNat (dst (du l) z.toNat z.toNat)else []
theorem Gj{l:List GPart}{z:Int}(h:onC l z=true):∃i:Nat,z=(i:Int)∧i<l.length∧1≤dst (du l) i i:=by
 unfold onC at h
 obtain⟨x,hx,rfl⟩:=H8.1 h
 obtain⟨h1,h2⟩:=abJ.1 hx
 refine⟨x,rfl,h1,(aeP (g:=nrI l false) (fun k=> ?_)).2 h2⟩
 rw[abD,pV]
theorem yD{l:List GPart}{z:Int}(h:onC l z=false):cyc l z= []:=by unfold cyc;rw[if_neg (by simp[h])]
theorem xG{l:List GPart}{i:Nat}(h:onC l (i:Int)=true):cyc l (i:Int)=wkL (du l) i (dst (du l) i i):=by unfold cyc;rw[if_pos h];simp
theorem agu(l:List GPart)(z:Int):∀x∈cyc l z,x<l.length:=fun x hx=>by
 cases h:onC l z with
 |false=>rw[yD h]at hx;cases hx
 | true=>
   obtain⟨i,rfl,hi,h1⟩:=Gj h
   rw[xG h]at hx
   exact Z8 (y9 l) hi h1 (f_ _) x hx
theorem BF(l:List GPart)(z:Int):(cyc l z).length≤l.length:=by
 cases h:onC l z with
 |false=>rw[yD h];simp
 | true=>
   obtain⟨i,rfl,hi,h1⟩:=Gj h
   rw[xG h,Ac]
   exact Iz (y9 l) hi h1
theorem XM{f:Nat→List Nat}{i:Nat}(h:1≤dst f i i):fvI f i i=(dst f i i:Int):=by unfold fvI;rw[if_pos h]
theorem afC{f:Nat→List Nat}{i n k:Nat}(h1:¬k=i)(h2:fvI f i k=(n:Int) - 1):isN f i n k=true:=by simp[isN,h1,h2]
theorem abS{f:Nat→List Nat}{i n k:Nat}(h1:k=i):isN f i n k=false:=by simp[isN,h1]
theorem abR{f:Nat→List Nat}{i n k:Nat}(h2:¬fvI f i k=(n:Int) - 1):isN f i n k=false:=by simp[isN,h2]
def uZ :IC:=(zd_ [zz_ 4 (.mov (.k (.slice none 0 0)))] (zd_ [zz_ 11 (.brow true 3 1 0 false []),zw_ 5 11] (.seq (zd_ [zw_ 12 0,zw_ 13 1,zp_ 14 91 12 13,zz_ 15 (.not (.t 14))] (.cond (.t 15) (zd_ [zw_ 16 5,zw_ 4 16] .ret) .skip)) (zd_ [zw_ 17 0,zw_ 18 1,zp_ 19 92 17 18,zw_ 6 19] (zd_ [zw_ 20 1,zw_ 7 20] (.seq (zd_ [zw_ 21 6,zw_ 22 1,ze_ 23 1 21 22,zs_ 24 1 23,zw_ 8 24] (.block 0 (.loop (.seq (zd_ [zw_ 25 8,zm_ 26 .gtr 25 0] (.cond (.t 26) .skip (.exit 0))) (.seq (.block 1 (zd_ [zw_ 29 5,zw_ 30 7,zz_ 31 (.brow false 3 1 1 false [(.t 30)]),zz_ 32 (.app 3 1 (.t 29) (.t 31)),zw_ 5 32] (zd_ [zw_ 33 0,zw_ 34 7,zp_ 35 19 33 34,zw_ 9 35] (zd_ [zk_ 10 0] (.block 2 (.loop (.seq (zd_ [zw_ 36 10,zw_ 37 9,zf_ 38 false 37,zl_ 39 .lss 36 38] (.cond (.t 39) .skip (.exit 2))) (.seq (.block 3 (zd_ [zw_ 42 8,zm_ 43 .eql 42 1,zw_ 44 43,zv_ 45 44 9,zv_ 46 44 10,zy_ 47 44 (.iad 1 (.t 45) (.t 46)),zy_ 48 44 (.load 1 false (.t 47)),zv_ 49 44 1,zy_ 50 44 (.bin .eql (.t 48) (.t 49)),zh_ 51 44 50 false,zw_ 52 51,zu_ 53 52 8,zx_ 54 52 (.bin .gtr (.t 53) (.k (.int .i64 1))),zu_ 55 52 54,zv_ 56 55 9,zv_ 57 55 10,zy_ 58 55 (.iad 1 (.t 56) (.t 57)),zy_ 59 55 (.load 1 false (.t 58)),zv_ 60 55 1,zy_ 61 55 (.bin .neq (.t 59) (.t 60)),zx_ 62 52 (.pick (.t 55) (.t 61) (.k (.bool false))),zu_ 63 52 62,zv_ 64 63 6,zv_ 65 63 9,zv_ 66 63 10,zy_ 67 63 (.iad 1 (.t 65) (.t 66)),zy_ 68 63 (.load 1 false (.t 67)),zy_ 69 63 (.iad 1 (.t 64) (.t 68)),zy_ 70 63 (.load 1 false (.t 69)),zv_ 71 63 8,zy_ 72 63 (.bin .sub (.t 71) (.k (.int .i64 1))),zy_ 73 63 (.bin .eql (.t 70) (.t 72)),zx_ 74 52 (.pick (.t 63) (.t 73) (.k (.bool false))),zg_ 75 52 true 74] (.cond (.t 75) (zd_ [zw_ 76 9,zw_ 77 10,ze_ 78 1 76 77,zs_ 79 1 78,zw_ 7 79] (.exit 2)) .skip))) (.reg false [zw_ 40 10,zm_ 41 .add 40 1,zw_ 10 41]))))))))) (.reg false [zw_ 27 8,zm_ 28 .sub 27 1,zw_ 8 28])))))) (zd_ [zw_ 80 5,zw_ 4 80] .ret)))))))
theorem vW :ay Tryz.prog (Tryz.f57.body.getD .skip)=some uZ:=by kernel_rfl
theorem RY(l:List GPart)(z:Int)(hw:l.length+D.wts (l.map GPart.toD)≤1048576):dA Tryz.prog 57 [.sl (l.map GPart.toD),li z] ((cyc l z).map ln) 3 1:=by
 have hn:l.length≤1048576:=by omega
 cases hon:onC l z with
 | false=>
   rw[yD hon]
   refine fK (fn:=Tryz.f57) (t:=4) (hc:=vW) (h:= ?_)
   unfold uZ;refine zb_ ?_
   change AWP _ _ _ (st0 81 _)
   refine sS trivial ?_
   repeat' (first|(refine rg_ ?_;intro K hK)|(refine hq_ ?_;clear hK K)|refine ca_ ?_ ?_|refine gq_ ?_|((with_reducible refine aB ?_);first|(refine dw (gY l z hw) trivial ?_ ?_))|((with_reducible refine eX ?_);first|(refine bT (gY l z hw) trivial ?_ ?_))|((with_reducible refine ak ?_);refine ss (aho @pkF hon) ?_)|refine nv ?_|exact aA|exact au)
   exact bC ⟨0,_,_,rfl,rfl,rfl,rfl,rfl,rfl,c_ rfl⟩
 |true=>
 obtain⟨i,rfl,hi,h1⟩:=Gj hon
 rw[xG hon]
 have hF:=y9 l
 have hdN:=Iz hF hi h1
 have hfar:=RJ l i hi hw
 have hfv:=XM h1
 have hfat:∀u (h:u<(Bq (du l) l.length i).length),(Bq (du l) l.length i)[u]=fvI (du l) i u:=fun u h=>NY ..
 have hflen:=Iu (du l) l.length i
 have hwd:=fun j (hj:j<dst (du l) i i)=>Z7 hF hi h1 (j:=j) hj
 have hfo:=fun j (hj:j+1<dst (du l) i i)=>Ox h1 hj
 have his:=fun j k (hk:k<(du l (wk (du l) i j)).length)=>afm (f:=du l) (i:=i) (j:=j) hk
 obtain⟨d,hd⟩:∃d,dst (du l) i i=d:=⟨_,rfl⟩
 rw[hd]at h1 hdN hfv hwd hfo⊢
 simp only[hd]at his
 obtain⟨fl,hfl⟩:∃fl,Bq (du l) l.length i=fl:=⟨_,rfl⟩
 rw[hfl]at hfar hflen
 simp only[hfl]at hfat
 have hif:i<fl.length:=by omega
 have hfi:fl[i]=(d:Int):=by rw[hfat i hif,hfv]
 clear hfv
 refine fK (fn:=Tryz.f57) (t:=4) (hc:=vW) (h:= ?_)
 unfold uZ;refine zb_ ?_
 change AWP _ _ _ (st0 81 _)
 refine sS trivial ?_
 repeat' (first|(refine rg_ ?_;intro K hK)|(refine hq_ ?_;clear hK K)|refine ca_ ?_ ?_|refine gq_ ?_|((with_reducible refine aB ?_);first|(refine dw (gY l i hw) trivial ?_ ?_)|(refine bG hfar (dQ _) ?_ ?_))|((with_reducible refine eX ?_);first|(refine bT (gY l i hw) trivial ?_ ?_))|((with_reducible refine ak ?_);refine ss (aho @pkF (aho hon hfi)) ?_)|refine nv ?_|exact aA|exact au)
 refine aW (X:=Nat×Nat×Nat) (fun q=> [.k,.k,.d,.d,.d,.v (.c false [.own 0 q.2.1]),.k,.v (.c false [.raw (.int .i64 (q.2.2:Nat))]),.v (.c false [.raw (.int .i64 (d - q.1:Nat))]),.d,.d,.d,.d,.d,.d,.d,.d,.d,.d,.d,.d,.d,.d,.d,.d,.d,.d,.d,.d,.d,.d,.d,.d,.d,.d,.d,.d,.d,.d,.d,.d,.d,.d,.d,.d,.d,.d,.d,.d,.d,.d,.d,.d,.d,.d,.d,.d,.d,.d,.d,.d,.d,.d,.d,.d,.d,.d,.d,.d,.d,.d,.d,.d,.d,.d,.d,.d,.d,.d,.d,.d]) (fun q=> [⟨(wkL (du l) i q.1).map ln,3,1,q.2.1,true⟩,⟨fl.map li,3,1,0,true⟩]) (fun q bs=>bs) (fun q=>q.1≤d∧(q.1<d→q.2.2=wk (du l) i q.1)) (fun q=>d - q.1) (0,0,i) ⟨b_ _,fun _=>rfl⟩ ?_ ?_
 ·simp[aO,aX,aK,aN,AV.fits,AC.fits,FB,aG,wkL]
 rintro⟨j,v,x⟩ ⟨hj,hx⟩
 simp only at hj hx
 have hwl:=Ac (du l) i j
 simp only[FB,aG]
 by_cases hjd:j<d
 ·obtain rfl:=hx hjd
  have hwj:=hwd j hjd
  have hdu:=jY l ((wk (du l) i j:Nat):Int) hw
  rw[pV]at hdu
  have hul:=Iw l (wk (du l) i j)
  have hub:=y9 l (wk (du l) i j)
  have hfoj:=hfo j
  have hisj:=his j
  obtain⟨us,hus⟩:∃us,du l (wk (du l) i j)=us:=⟨_,rfl⟩
  simp only[hus]at hfoj hisj
  rw[hus]at hdu hul hub
  have hsucc:=Oy (du l) i j
  repeat' (first|(refine rg_ ?_;intro K hK)|(refine hq_ ?_;clear hK K)|refine ca_ ?_ ?_|refine gq_ ?_|((with_reducible refine aB ?_);first|(refine bG hdu (aU _) ?_ ?_))|((with_reducible refine ak ?_);refine ss @pkF ?_)|refine nv ?_|exact aA|exact au)
  by_cases hj1:j+1<d
  ·refine aW (X:=Nat) (fun q=> [.k,.k,.d,.d,.d,.k,.k,.v (.c false [.raw (.int .i64 (wk (du l) i j:Nat))]),.k,.k,.v (.c false [.raw (.int .i64 (q:Nat))]),.d,.d,.d,.d,.d,.d,.d,.d,.d,.d,.d,.d,.d,.d,.d,.d,.d,.d,.d,.d,.d,.d,.d,.d,.d,.d,.d,.d,.d,.d,.d,.d,.d,.d,.d,.d,.d,.d,.d,.d,.d,.d,.d,.d,.d,.d,.d,.d,.d,.d,.d,.d,.d,.d,.d,.d,.d,.d,.d,.d,.d,.d,.d,.d,.d,.d,.d,.d,.d,.d]) (fun q=> [⟨(wkL (du l) i (j+1)).map ln,3,1,v+1,true⟩,⟨fl.map li,3,1,0,true⟩,⟨us.map ln,3,1,0,true⟩]) (fun q bs=>bs) (fun q=>q≤us.length∧∀m (hm:m<q) (h:m<us.length),isN (du l) i (d - j) us[m]=false) (fun q=>us.length - q) 0 ⟨b_ _,fun m hm=>by omega⟩ ?_ ?_
   ·simp[aO,aX,aK,aN,AV.fits,AC.fits,FB,aG,hsucc,ln,li]
   rintro k ⟨hk,hno⟩
   simp only[FB,aG]
   by_cases hk2:k<us.length
   ·have hxl:=hub us[k] (d_ hk2)
    have hxf:us[k]<fl.length:=by omega
    have hfx:=hfat us[k] hxf
    by_cases e1:us[k]=i
    ·have hnn:∀m (hm:m<k+1) (h:m<us.length),isN (du l) i (d - j) us[m]=false:=fun m hm h=>by
      rcases a_ m k with h'|h'
      ·exact hno m h' h
      ·obtain rfl:m=k:=by omega
       exact abS e1
     repeat' (first|(refine rg_ ?_;intro K hK)|(refine hq_ ?_;clear hK K)|refine ca_ ?_ ?_|refine gq_ ?_|((with_reducible refine ak ?_);refine ss (aho @pkF hfx) ?_)|refine nv ?_|exact aA|exact au)
     refine aS (k+1) ?_ ⟨by omega,hnn⟩ (show us.length - (k+1)<us.length - k by omega)
     simp[aO,aX,aK,aN,AV.fits,AC.fits,FB,aG]
    ·by_cases e2:fvI (du l) i us[k]=((d - j:Nat):Int) - 1
     ·have hnx:=hisj k hk2 (fun m hm=>hno m hm (by omega)) (afC e1 e2)
      repeat' (first|(refine rg_ ?_;intro K hK)|(refine hq_ ?_;clear hK K)|refine ca_ ?_ ?_|refine gq_ ?_|((with_reducible refine ak ?_);refine ss (aho @pkF hfx) ?_)|refine nv ?_|exact aA|exact au)
      refine aS (j+1,v+1,us[k]) ?_ ⟨show j+1≤d by omega,fun _=>hnx.symm⟩ (show d - (j+1)<d - j by omega)
      simp[aO,aX,aK,aN,AV.fits,AC.fits,FB,aG]
      try omega
     ·have hnn:∀m (hm:m<k+1) (h:m<us.length),isN (du l) i (d - j) us[m]=false:=fun m hm h=>by
       rcases a_ m k with h'|h'
       ·exact hno m h' h
       ·obtain rfl:m=k:=by omega
        exact abR e2
      repeat' (first|(refine rg_ ?_;intro K hK)|(refine hq_ ?_;clear hK K)|refine ca_ ?_ ?_|refine gq_ ?_|((with_reducible refine ak ?_);refine ss (aho @pkF hfx) ?_)|refine nv ?_|exact aA|exact au)
      refine aS (k+1) ?_ ⟨by omega,hnn⟩ (show us.length - (k+1)<us.length - k by omega)
      simp[aO,aX,aK,aN,AV.fits,AC.fits,FB,aG]
   ·obtain rfl:k=us.length:=by omega
    exact(hfoj hj1 (fun m hm=>hno m hm hm)).elim
  ·refine aW (X:=Nat) (fun q=> [.k,.k,.d,.d,.d,.k,.k,.v (.c false [.raw (.int .i64 (wk (du l) i j:Nat))]),.k,.k,.v (.c false [.raw (.int .i64 (q:Nat))]),.d,.d,.d,.d,.d,.d,.d,.d,.d,.d,.d,.d,.d,.d,.d,.d,.d,.d,.d,.d,.d,.d,.d,.d,.d,.d,.d,.d,.d,.d,.d,.d,.d,.d,.d,.d,.d,.d,.d,.d,.d,.d,.d,.d,.d,.d,.d,.d,.d,.d,.d,.d,.d,.d,.d,.d,.d,.d,.d,.d,.d,.d,.d,.d,.d,.d,.d,.d,.d,.d]) (fun q=> [⟨(wkL (du l) i (j+1)).map ln,3,1,v+1,true⟩,⟨fl.map li,3,1,0,true⟩,⟨us.map ln,3,1,0,true⟩]) (fun q bs=>bs) (fun q=>q≤us.length) (fun q=>us.length - q) 0 (b_ _) ?_ ?_
   ·simp[aO,aX,aK,aN,AV.fits,AC.fits,FB,aG,hsucc,ln,li]
   rintro k hk
   have hk':k≤us.length:=hk
   clear hk
   simp only[FB,aG]
   by_cases hk2:k<us.length
   ·have hxl:=hub us[k] (d_ hk2)
    have hxf:us[k]<fl.length:=by omega
    have hfx:=hfat us[k] hxf
    by_cases e1:us[k]=i
    ·repeat' (first|(refine rg_ ?_;intro K hK)|(refine hq_ ?_;clear hK K)|refine ca_ ?_ ?_|refine gq_ ?_|((with_reducible refine ak ?_);refine ss (aho @pkF hfx) ?_)|refine nv ?_|exact aA|exact au)
     refine aS (j+1,v+1,us[k]) ?_ ⟨show j+1≤d by omega,fun h=>absurd h hj1⟩ (show d - (j+1)<d - j by omega)
     simp[aO,aX,aK,aN,AV.fits,AC.fits,FB,aG]
     try omega
    ·repeat' (first|(refine rg_ ?_;intro K hK)|(refine hq_ ?_;clear hK K)|refine ca_ ?_ ?_|refine gq_ ?_|((with_reducible refine ak ?_);refine ss (aho @pkF hfx) ?_)|refine nv ?_|exact aA|exact au)
     refine aS (k+1) ?_ (show k+1≤us.length by omega) (show us.length - (k+1)<us.length - k by omega)
     simp[aO,aX,aK,aN,AV.fits,AC.fits,FB,aG]
   ·obtain rfl:k=us.length:=by omega
    repeat' (first|(refine rg_ ?_;intro K hK)|(refine hq_ ?_;clear hK K)|refine ca_ ?_ ?_|refine gq_ ?_|((with_reducible refine aB ?_);first|(refine dw (gY l i hw) trivial ?_ ?_)|(refine bG hfar (dQ _) ?_ ?_))|((with_reducible refine eX ?_);first|(refine bT (gY l i hw) trivial ?_ ?_))|((with_reducible refine ak ?_);refine ss (aho @pkF (aho hon hfi)) ?_)|refine nv ?_|exact aA|exact au)
    refine aS (j+1,v+1,wk (du l) i j) ?_ ⟨show j+1≤d by omega,fun h=>absurd h hj1⟩ (show d - (j+1)<d - j by omega)
    simp[aO,aX,aK,aN,AV.fits,AC.fits,FB,aG]
    try omega
 ·obtain rfl:j=d:=by omega
  repeat' (first|(refine rg_ ?_;intro K hK)|(refine hq_ ?_;clear hK K)|refine ca_ ?_ ?_|refine gq_ ?_|((with_reducible refine aB ?_);first|(refine dw (gY l i hw) trivial ?_ ?_)|(refine bG hfar (dQ _) ?_ ?_))|((with_reducible refine eX ?_);first|(refine bT (gY l i hw) trivial ?_ ?_))|((with_reducible refine ak ?_);refine ss (aho @pkF (aho hon hfi)) ?_)|refine nv ?_|exact aA|exact au)
  exact bC ⟨0,_,_,rfl,rfl,rfl,rfl,rfl,rfl,c_ rfl⟩
def vg :IC:=(zd_ [zz_ 4 (.mov (.k (.slice none 0 0)))] (.seq (zd_ [zw_ 10 0,zw_ 11 1,zp_ 12 16 10 11,zz_ 13 (.not (.t 12))] (.cond (.t 13) (zd_ [zz_ 4 (.mov (.k (.slice none 0 0)))] .ret) .skip)) (zd_ [zw_ 14 0,zw_ 15 1,zp_ 16 59 14 15,zw_ 5 16] (zd_ [zw_ 17 1,zz_ 18 (.brow true 3 1 1 false [(.t 17)]),zw_ 6 18] (.seq (zd_ [zw_ 19 5,zw_ 20 1,ze_ 21 1 19 20,zs_ 22 1 21,zw_ 7 22] (.block 0 (.loop (.seq (zd_ [zw_ 23 7,zm_ 24 .gtr 23 1] (.cond (.t 24) .skip (.exit 0))) (.seq (.block 1 (zd_ [zw_ 27 0,zw_ 28 6,zw_ 29 6,zf_ 30 false 29,zm_ 31 .sub 30 1,ze_ 32 1 28 31,zs_ 33 1 32,zp_ 34 41 27 33,zf_ 35 false 34,zk_ 36 0] (.block 2 (.loop (zd_ [zl_ 37 .lss 36 35] (.seq (.cond (.t 37) .skip (.exit 2)) (.seq (.block 3 (zd_ [ze_ 38 1 34 36,zs_ 39 1 38,zw_ 9 39] (zd_ [zw_ 40 9,zw_ 41 1,zl_ 42 .neq 40 41,zw_ 43 42,zv_ 44 43 5,zv_ 45 43 9,zy_ 46 43 (.iad 1 (.t 44) (.t 45)),zy_ 47 43 (.load 1 false (.t 46)),zv_ 48 43 7,zy_ 49 43 (.bin .sub (.t 48) (.k (.int .i64 1))),zy_ 50 43 (.bin .eql (.t 47) (.t 49)),zh_ 51 43 50 false] (.cond (.t 51) (zd_ [zw_ 52 6,zw_ 53 9,zz_ 54 (.brow false 3 1 1 false [(.t 53)]),zz_ 55 (.app 3 1 (.t 52) (.t 54)),zw_ 6 55] (.exit 2)) .skip)))) (.reg false [zm_ 56 .add 36 1,zw_ 36 56])))))))) (.reg false [zw_ 25 7,zm_ 26 .sub 25 1,zw_ 7 26])))))) (zd_ [zw_ 57 6,zw_ 4 57] .ret))))))
theorem vX :ay Tryz.prog (Tryz.f17.body.getD .skip)=some vg:=by kernel_rfl
theorem xH(l:List GPart)(z:Int)(hw:l.length+D.wts (l.map GPart.toD)≤1048576):dA Tryz.prog 17 [.sl (l.map GPart.toD),li z] ((cyc l z).map ln) 3 1:=by
 have hn:l.length≤1048576:=by omega
 cases hon:onC l z with
 | false=>
   rw[yD hon]
   refine lI (fn:=Tryz.f17) (t:=4) (hc:=vX) (h:= ?_)
   unfold vg;refine zb_ ?_
   change AWP _ _ _ (st0 58 _)
   refine sS trivial ?_
   repeat' (first|(refine rg_ ?_;intro K hK)|(refine hq_ ?_;clear hK K)|refine ca_ ?_ ?_|refine gq_ ?_|((with_reducible refine aB ?_);first|(refine dw (iQ l z hw) trivial ?_ ?_))|((with_reducible refine eX ?_);first|(refine bT (iQ l z hw) trivial ?_ ?_))|((with_reducible refine ak ?_);refine ss (aho @pkF hon) ?_)|refine nv ?_|exact aA|exact au)
   exact bC (h_ ⟨rfl,rfl⟩)
 |true=>
 obtain⟨i,rfl,hi,h1⟩:=Gj hon
 rw[xG hon]
 have hF:=y9 l
 have hdN:=Iz hF hi h1
 have hfar:=RN l i hi hw
 have hfv:=XM h1
 have hfat:∀u (h:u<(Bq (du l) l.length i).length),(Bq (du l) l.length i)[u]=fvI (du l) i u:=fun u h=>NY ..
 have hflen:=Iu (du l) l.length i
 have hwd:=fun j (hj:j<dst (du l) i i)=>Z7 hF hi h1 (j:=j) hj
 have hfo:=fun j (hj:j+1<dst (du l) i i)=>Ox h1 hj
 have his:=fun j k (hk:k<(du l (wk (du l) i j)).length)=>afm (f:=du l) (i:=i) (j:=j) hk
 obtain⟨d,hd⟩:∃d,dst (du l) i i=d:=⟨_,rfl⟩
 rw[hd]at h1 hdN hfv hwd hfo⊢
 simp only[hd]at his
 obtain⟨fl,hfl⟩:∃fl,Bq (du l) l.length i=fl:=⟨_,rfl⟩
 rw[hfl]at hfar hflen
 simp only[hfl]at hfat
 have hif:i<fl.length:=by omega
 have hfi:fl[i]=(d:Int):=by rw[hfat i hif,hfv]
 clear hfv
 refine lI (fn:=Tryz.f17) (t:=4) (hc:=vX) (h:= ?_)
 unfold vg;refine zb_ ?_
 change AWP _ _ _ (st0 58 _)
 refine sS trivial ?_
 repeat' (first|(refine rg_ ?_;intro K hK)|(refine hq_ ?_;clear hK K)|refine ca_ ?_ ?_|refine gq_ ?_|((with_reducible refine aB ?_);first|(refine dw (iQ l i hw) trivial ?_ ?_)|(refine bG hfar (dQ _) ?_ ?_))|((with_reducible refine eX ?_);first|(refine bT (iQ l i hw) trivial ?_ ?_))|((with_reducible refine ak ?_);refine ss (aho @pkF (aho hon hfi)) ?_)|refine nv ?_|exact aA|exact au)
 refine aW (X:=Nat×Nat) (fun q=> [.k,.k,.d,.d,.d,.k,.v (.c false [.own 1 q.2]),.v (.c false [.raw (.int .i64 (d - q.1:Nat))]),.d,.d,.d,.d,.d,.d,.d,.d,.d,.d,.d,.d,.d,.d,.d,.d,.d,.d,.d,.d,.d,.d,.d,.d,.d,.d,.d,.d,.d,.d,.d,.d,.d,.d,.d,.d,.d,.d,.d,.d,.d,.d,.d,.d,.d,.d,.d,.d,.d,.d]) (fun q=> [⟨fl.map li,3,1,0,true⟩,⟨(wkL (du l) i (q.1+1)).map ln,3,1,q.2,true⟩]) (fun q bs=>bs) (fun q=>q.1+1≤d) (fun q=>d - q.1) (0,0) h1 ?_ ?_
 ·simp[aO,aX,aK,aN,AV.fits,AC.fits,FB,aG,wkL,wk,ln,li]
 rintro⟨j,v⟩ hj
 simp only at hj
 have hwl:=Ac (du l) i (j+1)
 have hwa:=TF (du l) i (j+1) j (by omega)
 simp only[FB,aG]
 by_cases hj1:j+1<d
 ·have hwj:=hwd j (by omega)
  have hdu:=ni l ((wk (du l) i j:Nat):Int) hw
  rw[pV]at hdu
  have hul:=Iw l (wk (du l) i j)
  have hub:=y9 l (wk (du l) i j)
  have hfoj:=hfo j
  have hisj:=his j
  obtain⟨us,hus⟩:∃us,du l (wk (du l) i j)=us:=⟨_,rfl⟩
  simp only[hus]at hfoj hisj
  rw[hus]at hdu hul hub
  have hsucc:=Oy (du l) i (j+1)
  have hz:(((wkL (du l) i (j+1)).length:Int) - 1)=(j:Int):=by omega
  have hjl:j<(wkL (du l) i (j+1)).length:=by omega
  obtain⟨w,hw0⟩:∃w,wkL (du l) i (j+1)=w:=⟨_,rfl⟩
  simp only[hw0]at hwl hwa hsucc hz hjl⊢
  repeat' (first|(refine rg_ ?_;intro K hK)|(refine hq_ ?_;clear hK K)|refine ca_ ?_ ?_|refine gq_ ?_|((with_reducible refine aB ?_);first|(refine bG hdu (aU _) ?_ ?_))|((with_reducible refine ak ?_);refine ss (aho @pkF (aho hz hwa)) ?_)|refine nv ?_|exact aA|exact au)
  refine aW (X:=Nat) (fun q=> [.k,.k,.d,.d,.d,.k,.v (.c false [.own 1 v]),.k,.d,.d,.d,.d,.d,.d,.d,.d,.d,.d,.d,.d,.d,.d,.d,.d,.d,.d,.d,.d,.d,.d,.d,.d,.d,.d,.k,.k,.v (.c false [.raw (.int .i64 (q:Nat))]),.d,.d,.d,.d,.d,.d,.d,.d,.d,.d,.d,.d,.d,.d,.d,.d,.d,.d,.d,.d,.d]) (fun q=> [⟨fl.map li,3,1,0,true⟩,⟨w.map ln,3,1,v,true⟩,⟨us.map ln,3,1,0,true⟩]) (fun q bs=>bs) (fun q=>q≤us.length∧∀m (hm:m<q) (h:m<us.length),isN (du l) i (d - j) us[m]=false) (fun q=>us.length - q) 0 ⟨b_ _,fun m hm=>by omega⟩ ?_ ?_
  ·simp[aO,aX,aK,aN,AV.fits,AC.fits,FB,aG]
  rintro k ⟨hk,hno⟩
  simp only[FB,aG]
  by_cases hk2:k<us.length
  ·have hxl:=hub us[k] (d_ hk2)
   have hxf:us[k]<fl.length:=by omega
   have hfx:=hfat us[k] hxf
   by_cases e1:us[k]=i
   ·have hnn:∀m (hm:m<k+1) (h:m<us.length),isN (du l) i (d - j) us[m]=false:=fun m hm h=>by
     rcases a_ m k with h'|h'
     ·exact hno m h' h
     ·obtain rfl:m=k:=by omega
      exact abS e1
    repeat' (first|(refine rg_ ?_;intro K hK)|(refine hq_ ?_;clear hK K)|refine ca_ ?_ ?_|refine gq_ ?_|((with_reducible refine ak ?_);refine ss (aho @pkF hfx) ?_)|refine nv ?_|exact aA|exact au)
    refine aS (k+1) ?_ ⟨by omega,hnn⟩ (show us.length - (k+1)<us.length - k by omega)
    simp[aO,aX,aK,aN,AV.fits,AC.fits,FB,aG]
   ·by_cases e2:fvI (du l) i us[k]=((d - j:Nat):Int) - 1
    ·have hnx:=hisj k hk2 (fun m hm=>hno m hm (by omega)) (afC e1 e2)
     rw[hnx]at hsucc
     repeat' (first|(refine rg_ ?_;intro K hK)|(refine hq_ ?_;clear hK K)|refine ca_ ?_ ?_|refine gq_ ?_|((with_reducible refine ak ?_);refine ss (aho @pkF hfx) ?_)|refine nv ?_|exact aA|exact au)
     all_goals first
      |(simp only[i_,e_,g_,j_,List.length_replicate];omega)
      | (refine aS (j+1,v+1) ?_ (show j+1+1≤d by omega) (show d - (j+1)<d - j by omega)
         simp[aO,aX,aK,aN,AV.fits,AC.fits,FB,aG,hsucc,ln,li]
         try omega)
    ·have hnn:∀m (hm:m<k+1) (h:m<us.length),isN (du l) i (d - j) us[m]=false:=fun m hm h=>by
      rcases a_ m k with h'|h'
      ·exact hno m h' h
      ·obtain rfl:m=k:=by omega
       exact abR e2
     repeat' (first|(refine rg_ ?_;intro K hK)|(refine hq_ ?_;clear hK K)|refine ca_ ?_ ?_|refine gq_ ?_|((with_reducible refine ak ?_);refine ss (aho @pkF hfx) ?_)|refine nv ?_|exact aA|exact au)
     refine aS (k+1) ?_ ⟨by omega,hnn⟩ (show us.length - (k+1)<us.length - k by omega)
     simp[aO,aX,aK,aN,AV.fits,AC.fits,FB,aG]
  ·obtain rfl:k=us.length:=by omega
   exact(hfoj hj1 (fun m hm=>hno m hm hm)).elim
 ·obtain rfl:d=j+1:=by omega
  repeat' (first|(refine rg_ ?_;intro K hK)|(refine hq_ ?_;clear hK K)|refine ca_ ?_ ?_|refine gq_ ?_|((with_reducible refine aB ?_);first|(refine dw (iQ l i hw) trivial ?_ ?_)|(refine bG hfar (dQ _) ?_ ?_))|((with_reducible refine eX ?_);first|(refine bT (iQ l i hw) trivial ?_ ?_))|((with_reducible refine ak ?_);refine ss (aho @pkF (aho hon hfi)) ?_)|refine nv ?_|exact aA|exact au)
  exact bC (c_ ⟨1,_,_,rfl,rfl,rfl,rfl,rfl,rfl,c_ rfl⟩)
noncomputable def eY(l:List GPart):Nat→List Nat
 |0=> []
 |k+1=>if 0<(cyc l (k:Int)).length∧((eY l k).length=0∨(cyc l (k:Int)).length<(eY l k).length)then cyc l (k:Int)else eY l k
theorem Fq{l:List GPart}{k:Nat}(h:0<(cyc l (k:Int)).length∧((eY l k).length=0∨(cyc l (k:Int)).length<(eY l k).length)):eY l (k+1)=cyc l (k:Int):=by rw[eY,if_pos h]
theorem BG{l:List GPart}{k:Nat}(h:¬(0<(cyc l (k:Int)).length∧((eY l k).length=0∨(cyc l (k:Int)).length<(eY l k).length))):eY l (k+1)=eY l k:=by rw[eY,if_neg h]
theorem SE(l:List GPart):∀k,∀x∈eY l k,x<l.length
 |0=>by simp[eY]
 | k+1=>by
   intro x hx
   rw[eY]at hx
   split at hx
   ·exact agu l _ x hx
   ·exact SE l k x hx
theorem qQ(l:List GPart):∀k,(eY l k).length≤l.length
 |0=>by simp[eY]
 | k+1=>by
   rw[eY]
   split
   ·exact BF l _
   ·exact qQ l k
def aef(l:List GPart)(i:Nat):ByteArray:=match l[i]? with|some x=>x.name|none=> .empty
theorem aee(l:List GPart){i:Nat}(h:i<l.length):aef l i=l[i].name:=by unfold aef;rw[List.getElem?_eq_getElem h]
noncomputable def uI(l:List GPart):List ByteArray:=(eY l l.length).map (aef l)
def yZ :IC:=(zd_ [zz_ 2 (.mov (.k (.slice none 0 0)))] (zd_ [zz_ 6 (.brow true 3 1 0 false []),zw_ 3 6] (.seq (zd_ [zk_ 4 0] (.block 0 (.loop (.seq (zd_ [zw_ 7 4,zw_ 8 0,zf_ 9 false 8,zl_ 10 .lss 7 9] (.cond (.t 10) .skip (.exit 0))) (.seq (.block 1 (zd_ [zw_ 13 0,zw_ 14 4,zp_ 15 57 13 14,zw_ 5 15] (zd_ [zw_ 16 5,zf_ 17 false 16,zm_ 18 .gtr 17 0,zw_ 19 18,zv_ 20 19 3,zy_ 21 19 (.len false (.t 20)),zy_ 22 19 (.bin .eql (.t 21) (.k (.int .i64 0))),zv_ 23 19 22,zu_ 24 23 5,zx_ 25 23 (.len false (.t 24)),zu_ 26 23 3,zx_ 27 23 (.len false (.t 26)),zx_ 28 23 (.bin .lss (.t 25) (.t 27)),zy_ 29 19 (.pick (.t 23) (.k (.bool true)) (.t 28)),zh_ 30 19 29 false] (.cond (.t 30) (.reg false [zw_ 31 5,zw_ 3 31]) .skip)))) (.reg false [zw_ 11 4,zm_ 12 .add 11 1,zw_ 4 12])))))) (zd_ [zw_ 32 3,zw_ 2 32] .ret))))
theorem CV :ay Tryz.prog (Tryz.f14.body.getD .skip)=some yZ:=by kernel_rfl
theorem Jl(l:List GPart)(hw:l.length+D.wts (l.map GPart.toD)≤1048576):dA Tryz.prog 14 [.sl (l.map GPart.toD)] ((eY l l.length).map ln) 3 1:=by
 have hn:l.length≤1048576:=by omega
 refine fK (fn:=Tryz.f14) (t:=2) (hc:=CV) (h:= ?_)
 unfold yZ;refine zb_ ?_
 change AWP _ _ _ (st0 33 _)
 refine sS trivial ?_
 repeat' (first|(refine rg_ ?_;intro K hK)|(refine hq_ ?_;clear hK K)|refine ca_ ?_ ?_|refine gq_ ?_|((with_reducible refine ak ?_);refine ss @pkF ?_)|refine nv ?_|exact aA|exact au)
 refine uJ (X:=Nat×Nat) (fun q=> [.k,.d,.d,.v (.c false [.own 0 q.2]),.v (.c false [.raw (.int .i64 (q.1:Nat))]),.d,.d,.d,.d,.d,.d,.d,.d,.d,.d,.d,.d,.d,.d,.d,.d,.d,.d,.d,.d,.d,.d,.d,.d,.d,.d,.d,.d]) (fun q=> [⟨(eY l q.1).map ln,3,1,q.2,true⟩]) (fun q bs=>bs) (fun q=>q.1≤l.length) (fun q=>l.length - q.1) (0,0) [0] (b_ _) ?_ ?_
 ·simp[jR,jW,jm,iT,AV.ren,AC.ren,AV.fits,AC.fits,FB,aG,eY]
 rintro⟨k,v⟩ hk
 have hk':k≤l.length:=hk
 clear hk
 have hbl:=qQ l k
 simp only[FB,aG]
 by_cases hlk:k<l.length
 ·have hcy:=RY l (k:Int) hw
  have hcl:=BF l (k:Int)
  have hbt:=Fq (l:=l) (k:=k)
  have hbf:=BG (l:=l) (k:=k)
  obtain⟨c,hc0⟩:∃c,cyc l (k:Int)=c:=⟨_,rfl⟩
  rw[hc0]at hcy hcl hbt hbf
  obtain⟨b,hb0⟩:∃b,eY l k=b:=⟨_,rfl⟩
  rw[hb0]at hbl hbt hbf
  try simp only[hb0]
  by_cases t1:0<c.length
  ·by_cases t2:b.length=0
   ·repeat' (first|(refine rg_ ?_;intro K hK)|(refine hq_ ?_;clear hK K)|refine ca_ ?_ ?_|refine gq_ ?_|((with_reducible refine aB ?_);first|(refine bG hcy (aU _) ?_ ?_))|((with_reducible refine ak ?_);refine ss @pkF ?_)|refine nv ?_|exact aA|exact au)
    have hnx:=hbt (by omega)
    refine ng (k+1,0) [1] ?_ (show k+1≤l.length by omega) (show l.length - (k+1)<l.length - k by omega)
    simp[jR,jW,jm,iT,AV.ren,AC.ren,AV.fits,AC.fits,FB,aG,hnx]
   ·by_cases t3:c.length<b.length
    ·repeat' (first|(refine rg_ ?_;intro K hK)|(refine hq_ ?_;clear hK K)|refine ca_ ?_ ?_|refine gq_ ?_|((with_reducible refine aB ?_);first|(refine bG hcy (aU _) ?_ ?_))|((with_reducible refine ak ?_);refine ss @pkF ?_)|refine nv ?_|exact aA|exact au)
     have hnx:=hbt (by omega)
     refine ng (k+1,0) [1] ?_ (show k+1≤l.length by omega) (show l.length - (k+1)<l.length - k by omega)
     simp[jR,jW,jm,iT,AV.ren,AC.ren,AV.fits,AC.fits,FB,aG,hnx]
    ·repeat' (first|(refine rg_ ?_;intro K hK)|(refine hq_ ?_;clear hK K)|refine ca_ ?_ ?_|refine gq_ ?_|((with_reducible refine aB ?_);first|(refine bG hcy (aU _) ?_ ?_))|((with_reducible refine ak ?_);refine ss @pkF ?_)|refine nv ?_|exact aA|exact au)
     have hnx:=hbf (by omega)
     refine ng (k+1,v) [0] ?_ (show k+1≤l.length by omega) (show l.length - (k+1)<l.length - k by omega)
     simp[jR,jW,jm,iT,AV.ren,AC.ren,AV.fits,AC.fits,FB,aG,hnx]
  ·repeat' (first|(refine rg_ ?_;intro K hK)|(refine hq_ ?_;clear hK K)|refine ca_ ?_ ?_|refine gq_ ?_|((with_reducible refine aB ?_);first|(refine bG hcy (aU _) ?_ ?_))|((with_reducible refine ak ?_);refine ss @pkF ?_)|refine nv ?_|exact aA|exact au)
   have hnx:=hbf (by omega)
   refine ng (k+1,v) [0] ?_ (show k+1≤l.length by omega) (show l.length - (k+1)<l.length - k by omega)
   simp[jR,jW,jm,iT,AV.ren,AC.ren,AV.fits,AC.fits,FB,aG,hnx]
 ·obtain rfl:k=l.length:=by omega
  repeat' (first|(refine rg_ ?_;intro K hK)|(refine hq_ ?_;clear hK K)|refine ca_ ?_ ?_|refine gq_ ?_|((with_reducible refine ak ?_);refine ss @pkF ?_)|refine nv ?_|exact aA|exact au)
  exact bC ⟨0,_,_,rfl,rfl,rfl,rfl,rfl,rfl,c_ rfl⟩
def y5 :IC:=(zd_ [zz_ 2 (.mov (.k (.slice none 0 0)))] (zd_ [zz_ 3 (.mov (.k (.slice none 0 0)))] (.seq (zd_ [zw_ 6 0,zf_ 7 false 6,zk_ 8 0] (.block 0 (.loop (zd_ [zl_ 9 .lss 8 7] (.seq (.cond (.t 9) .skip (.exit 0)) (.seq (.block 1 (zd_ [zw_ 10 8,zw_ 4 10] (zd_ [zw_ 11 0,zw_ 12 4,zp_ 13 17 11 12,zw_ 5 13] (zd_ [zw_ 14 5,zf_ 15 false 14,zm_ 16 .gtr 15 0,zw_ 17 16,zv_ 18 17 3,zy_ 19 17 (.snil false (.t 18)),zv_ 20 17 19,zu_ 21 20 5,zx_ 22 20 (.len false (.t 21)),zu_ 23 20 3,zx_ 24 20 (.len false (.t 23)),zx_ 25 20 (.bin .lss (.t 22) (.t 24)),zy_ 26 17 (.pick (.t 20) (.k (.bool true)) (.t 25)),zh_ 27 17 26 false] (.cond (.t 27) (.reg false [zw_ 28 5,zw_ 3 28]) .skip))))) (.reg false [zm_ 29 .add 8 1,zw_ 8 29]))))))) (zd_ [zw_ 30 3,zw_ 2 30] .ret))))
theorem CW :ay Tryz.prog (Tryz.f12.body.getD .skip)=some y5:=by kernel_rfl
theorem yU(l:List GPart)(hw:l.length+D.wts (l.map GPart.toD)≤1048576):dA Tryz.prog 12 [.sl (l.map GPart.toD)] ((eY l l.length).map ln) 3 1:=by
 have hn:l.length≤1048576:=by omega
 refine lI (fn:=Tryz.f12) (t:=2) (hc:=CW) (h:= ?_)
 unfold y5;refine zb_ ?_
 change AWP _ _ _ (st0 31 _)
 refine sS trivial ?_
 repeat' (first|(refine rg_ ?_;intro K hK)|(refine hq_ ?_;clear hK K)|refine ca_ ?_ ?_|refine gq_ ?_|((with_reducible refine ak ?_);refine ss @pkF ?_)|refine nv ?_|exact aA|exact au)
 refine uJ (X:=Nat×Option Nat) (fun q=> [.k,.d,.d,.v ((match q.2 with|none=> .c false [.raw (.slice none 0 0)]|some v=> .c false [.own 0 v])),.d,.d,.d,.k,.v (.c false [.raw (.int .i64 (q.1:Nat))]),.d,.d,.d,.d,.d,.d,.d,.d,.d,.d,.d,.d,.d,.d,.d,.d,.d,.d,.d,.d,.d,.d]) (fun q=>match q.2 with|none=> []|some v=> [⟨(eY l q.1).map ln,3,1,v,true⟩]) (fun q bs=>bs) (fun q=>q.1≤l.length∧(match q.2 with|none=>(eY l q.1).length=0|some _=>0<(eY l q.1).length)) (fun q=>l.length - q.1) (0,none) [] ⟨b_ _,rfl⟩ ?_ ?_
 ·simp[jR,jW,jm,iT,AV.ren,AC.ren,AV.fits,AC.fits,FB,aG,eY]
 rintro⟨k,_|v⟩ ⟨hk,hbz⟩
 ·simp only at hk hbz
  have hbl:=qQ l k
  simp only[FB,aG]
  by_cases hlk:k<l.length
  ·have hcy:=xH l (k:Int) hw
   have hcl:=BF l (k:Int)
   have hbt:=Fq (l:=l) (k:=k)
   have hbf:=BG (l:=l) (k:=k)
   obtain⟨c,hc0⟩:∃c,cyc l (k:Int)=c:=⟨_,rfl⟩
   rw[hc0]at hcy hcl hbt hbf
   obtain⟨b,hb0⟩:∃b,eY l k=b:=⟨_,rfl⟩
   rw[hb0]at hbl hbt hbf
   try simp only[hb0]
   rw[hb0]at hbz
   by_cases t1:0<c.length
   ·repeat' (first|(refine rg_ ?_;intro K hK)|(refine hq_ ?_;clear hK K)|refine ca_ ?_ ?_|refine gq_ ?_|((with_reducible refine aB ?_);first|(refine bG hcy (aU _) ?_ ?_))|((with_reducible refine ak ?_);refine ss @pkF ?_)|refine nv ?_|exact aA|exact au)
    have hnx:=hbt (by omega)
    refine ng (k+1,some 0) [0] ?_ ⟨show k+1≤l.length by omega,by simp only[hnx];assumption⟩ (show l.length - (k+1)<l.length - k by omega)
    simp[jR,jW,jm,iT,AV.ren,AC.ren,AV.fits,AC.fits,FB,aG,hnx]
   ·repeat' (first|(refine rg_ ?_;intro K hK)|(refine hq_ ?_;clear hK K)|refine ca_ ?_ ?_|refine gq_ ?_|((with_reducible refine aB ?_);first|(refine bG hcy (aU _) ?_ ?_))|((with_reducible refine ak ?_);refine ss @pkF ?_)|refine nv ?_|exact aA|exact au)
    have hnx:=hbf (by omega)
    refine ng (k+1,none) [] ?_ ⟨show k+1≤l.length by omega,by simp only[hnx];assumption⟩ (show l.length - (k+1)<l.length - k by omega)
    simp[jR,jW,jm,iT,AV.ren,AC.ren,AV.fits,AC.fits,FB,aG,hnx]
  ·obtain rfl:k=l.length:=by omega
   rw[List.eq_nil_of_length_eq_zero hbz]
   repeat' (first|(refine rg_ ?_;intro K hK)|(refine hq_ ?_;clear hK K)|refine ca_ ?_ ?_|refine gq_ ?_|((with_reducible refine ak ?_);refine ss @pkF ?_)|refine nv ?_|exact aA|exact au)
   exact bC (h_ ⟨rfl,rfl⟩)
 ·simp only at hk hbz
  have hbl:=qQ l k
  simp only[FB,aG]
  by_cases hlk:k<l.length
  ·have hcy:=xH l (k:Int) hw
   have hcl:=BF l (k:Int)
   have hbt:=Fq (l:=l) (k:=k)
   have hbf:=BG (l:=l) (k:=k)
   obtain⟨c,hc0⟩:∃c,cyc l (k:Int)=c:=⟨_,rfl⟩
   rw[hc0]at hcy hcl hbt hbf
   obtain⟨b,hb0⟩:∃b,eY l k=b:=⟨_,rfl⟩
   rw[hb0]at hbl hbt hbf
   try simp only[hb0]
   rw[hb0]at hbz
   by_cases t1:0<c.length
   ·by_cases t3:c.length<b.length
    ·repeat' (first|(refine rg_ ?_;intro K hK)|(refine hq_ ?_;clear hK K)|refine ca_ ?_ ?_|refine gq_ ?_|((with_reducible refine aB ?_);first|(refine bG hcy (aU _) ?_ ?_))|((with_reducible refine ak ?_);refine ss @pkF ?_)|refine nv ?_|exact aA|exact au)
     have hnx:=hbt (by omega)
     refine ng (k+1,some 0) [1] ?_ ⟨show k+1≤l.length by omega,by simp only[hnx];assumption⟩ (show l.length - (k+1)<l.length - k by omega)
     simp[jR,jW,jm,iT,AV.ren,AC.ren,AV.fits,AC.fits,FB,aG,hnx]
    ·repeat' (first|(refine rg_ ?_;intro K hK)|(refine hq_ ?_;clear hK K)|refine ca_ ?_ ?_|refine gq_ ?_|((with_reducible refine aB ?_);first|(refine bG hcy (aU _) ?_ ?_))|((with_reducible refine ak ?_);refine ss @pkF ?_)|refine nv ?_|exact aA|exact au)
     have hnx:=hbf (by omega)
     refine ng (k+1,some v) [0] ?_ ⟨show k+1≤l.length by omega,by simp only[hnx];assumption⟩ (show l.length - (k+1)<l.length - k by omega)
     simp[jR,jW,jm,iT,AV.ren,AC.ren,AV.fits,AC.fits,FB,aG,hnx]
   ·repeat' (first|(refine rg_ ?_;intro K hK)|(refine hq_ ?_;clear hK K)|refine ca_ ?_ ?_|refine gq_ ?_|((with_reducible refine aB ?_);first|(refine bG hcy (aU _) ?_ ?_))|((with_reducible refine ak ?_);refine ss @pkF ?_)|refine nv ?_|exact aA|exact au)
    have hnx:=hbf (by omega)
    refine ng (k+1,some v) [0] ?_ ⟨show k+1≤l.length by omega,by simp only[hnx];assumption⟩ (show l.length - (k+1)<l.length - k by omega)
    simp[jR,jW,jm,iT,AV.ren,AC.ren,AV.fits,AC.fits,FB,aG,hnx]
  ·obtain rfl:k=l.length:=by omega
   repeat' (first|(refine rg_ ?_;intro K hK)|(refine hq_ ?_;clear hK K)|refine ca_ ?_ ?_|refine gq_ ?_|((with_reducible refine ak ?_);refine ss @pkF ?_)|refine nv ?_|exact aA|exact au)
   exact bC (c_ ⟨0,_,_,rfl,rfl,rfl,rfl,rfl,rfl,c_ rfl⟩)
def y7 :IC:=(zd_ [zz_ 2 (.mov (.k (.slice none 0 0)))] (zd_ [zz_ 6 (.brow true 9 1 0 false []),zw_ 3 6] (.seq (zd_ [zw_ 7 0,zq_ 8 12 7,zf_ 9 false 8,zk_ 10 0] (.block 0 (.loop (zd_ [zl_ 11 .lss 10 9] (.seq (.cond (.t 11) .skip (.exit 0)) (.seq (.block 1 (zd_ [ze_ 12 1 8 10,zs_ 13 1 12,zw_ 5 13] (.reg false [zw_ 14 3,zw_ 15 0,zw_ 16 5,ze_ 17 14 15 16,zt_ 18 1 17,zs_ 19 1 18,zz_ 20 (.brow false 9 1 1 false [(.t 19)]),zz_ 21 (.app 9 1 (.t 14) (.t 20)),zw_ 3 21]))) (.reg false [zm_ 22 .add 10 1,zw_ 10 22]))))))) (zd_ [zw_ 23 3,zw_ 2 23] .ret))))
theorem CX :ay Tryz.prog (Tryz.f15.body.getD .skip)=some y7:=by kernel_rfl
theorem Dh(l:List GPart)(hw:l.length+D.wts (l.map GPart.toD)≤1048576):dA Tryz.prog 15 [.sl (l.map GPart.toD)] ((uI l).map ls) 9 1:=by
 have hn:l.length≤1048576:=by omega
 have hsm:=yU l hw
 have hbl:=qQ l l.length
 have hbb:=SE l l.length
 unfold uI
 obtain⟨b,hb0⟩:∃b,eY l l.length=b:=⟨_,rfl⟩
 rw[hb0]at hsm hbl hbb⊢
 refine fK (fn:=Tryz.f15) (t:=2) (hc:=CX) (h:= ?_)
 unfold y7;refine zb_ ?_
 change AWP _ _ _ (st0 24 _)
 refine sS trivial ?_
 repeat' (first|(refine rg_ ?_;intro K hK)|(refine hq_ ?_;clear hK K)|refine ca_ ?_ ?_|((with_reducible refine aB ?_);first|(refine bG hsm (aU _) ?_ ?_))|((with_reducible refine ak ?_);refine ss @pkF ?_)|refine nv ?_|exact aA|exact au)
 refine aW (X:=Nat×Nat) (fun q=> [.k,.d,.d,.v (.c false [.own 0 q.2]),.d,.d,.d,.d,.k,.k,.v (.c false [.raw (.int .i64 (q.1:Nat))]),.d,.d,.d,.d,.d,.d,.d,.d,.d,.d,.d,.d,.d]) (fun q=> [⟨((b.take q.1).map (aef l)).map ls,9,1,q.2,true⟩,⟨b.map ln,3,1,0,true⟩]) (fun q bs=>bs) (fun q=>q.1≤b.length) (fun q=>b.length - q.1) (0,0) (b_ _) ?_ ?_
 ·simp[aO,aX,aK,aN,AV.fits,AC.fits,FB,aG]
 rintro⟨k,v⟩ hk
 have hk':k≤b.length:=hk
 clear hk
 simp only[FB,aG]
 by_cases hlk:k<b.length
 ·have hxl:=hbb b[k] (d_ hlk)
  have hnm:=aee l hxl
  have htk:b.take (k+1)=b.take k++ [b[k]]:=List.take_succ_eq_append_getElem hlk
  have htl:(b.take k).length≤b.length:=by rw[List.length_take];omega
  repeat' (first|(refine rg_ ?_;intro K hK)|(refine hq_ ?_;clear hK K)|refine ca_ ?_ ?_|((with_reducible refine aB ?_);first|(refine bG hsm (aU _) ?_ ?_))|((with_reducible refine ak ?_);refine ss @pkF ?_)|refine nv ?_|exact aA|exact au)
  all_goals first
   |(simp only[i_,e_,g_,j_];omega)
   | (refine aS (k+1,v+1) ?_ (show k+1≤b.length by omega) (show b.length - (k+1)<b.length - k by omega)
      simp[aO,aX,aK,aN,AV.fits,AC.fits,FB,aG,htk,hnm,ls, -List.take_append_getElem])
 ·obtain rfl:k=b.length:=by omega
  rw[List.take_length]
  repeat' (first|(refine rg_ ?_;intro K hK)|(refine hq_ ?_;clear hK K)|refine ca_ ?_ ?_|((with_reducible refine aB ?_);first|(refine bG hsm (aU _) ?_ ?_))|((with_reducible refine ak ?_);refine ss @pkF ?_)|refine nv ?_|exact aA|exact au)
  exact bC ⟨0,_,_,rfl,rfl,rfl,rfl,rfl,rfl,c_ rfl⟩
end Go.Proofs.YtfjmoicellpnhaaGreat
namespace Go.Proofs.YtfjmoicellpnhaaGreat
open Go.RowKit
open Nat renaming lt_or_ge→a_,zero_le→b_,le_refl→f_
open Or renaming inl→c_,inr→h_
open List renaming getElem_mem→d_,length_append→e_,length_cons→g_,length_map→i_,length_nil→j_
set_option linter.unusedSimpArgs false
set_option linter.unusedVariables false
theorem BD{l:List GPart}{i:Nat}(h:onC l (i:Int)=true):i<l.length∧1≤dst (du l) i i∧(cyc l (i:Int)).length=dst (du l) i i:=by
 obtain⟨j,h1,h2,h3⟩:=Gj h
 obtain rfl:i=j:=by omega
 exact⟨h2,h3,by rw[xG h,Ac]⟩
theorem RZ(l:List GPart)(i:Nat):decide (((cyc l (i:Int)).length:Int) > 0)=onC l (i:Int):=by
 cases h:onC l (i:Int)with
 |true=>obtain⟨_,h1,h2⟩:=BD h;rw[h2];exact decide_eq_true (by omega)
 |false=>rw[yD h];rfl
theorem aeT{l:List GPart}{i:Nat}(h:onC l (i:Int)=true)(h0:0<(cyc l (i:Int)).length):(cyc l (i:Int))[0]=i:=by
 simp only[xG h,TF]
 rfl
theorem ZA{l:List GPart}{i:Nat}(h:onC l (i:Int)=true):(cyc l (i:Int)).Nodup:=by
 rw[xG h]
 exact JU (BD h).2.1
theorem ac5{l:List GPart}{i:Nat}(h:onC l (i:Int)=true){k m:Nat}(hk:k<(cyc l (i:Int)).length)(hm:m=(k+1) % (cyc l (i:Int)).length)(hm2:m<(cyc l (i:Int)).length):(cyc l (i:Int))[m]∈du l (cyc l (i:Int))[k]:=by
 obtain⟨h1,h2,h3⟩:=BD h
 simp only[xG h,TF]
 rw[h3]at hk hm
 by_cases e:k+1<dst (du l) i i
 ·rw[Nat.mod_eq_of_lt e]at hm
  subst hm
  exact Z5 h2 e
 ·have e2:k+1=dst (du l) i i:=by omega
  rw[e2,Nat.mod_self]at hm
  subst hm
  have h4:=(Cb h2 k hk).1
  exact Ya.1 (show dst (du l) i (wk (du l) i k)=1 by rw[h4];omega)
noncomputable def Ja(l:List GPart):Nat→Bool
 |0=>false
 |k+1=>Ja l k || onC l (k:Int)
theorem vJ(l:List GPart):∀k,(Ja l k=false∧eY l k= []∧∀j,j<k→onC l (j:Int)=false)∨(Ja l k=true∧∃i:Nat,onC l (i:Int)=true∧eY l k=cyc l (i:Int)∧∀j,j<k→onC l (j:Int)=true→(cyc l (i:Int)).length≤(cyc l (j:Int)).length)
 |0=>c_ ⟨rfl,rfl,fun j h=>absurd h (Nat.not_lt_zero _)⟩
 | k + 1=>by
   cases hk:onC l (k:Int)with
   | false=>
     have hb:eY l (k+1)=eY l k:=BG (fun h=>by rw[yD hk]at h;exact absurd h.1 (by simp))
     rw[Ja,hb,hk,Bool.or_false]
     rcases vJ l k with⟨h1,h2,h3⟩|⟨h1,i,h2,h3,h4⟩
     ·refine c_ ⟨h1,h2,fun j hj=> ?_⟩
      rcases a_ j k with h|h
      ·exact h3 j h
      ·obtain rfl:j=k:=by omega
       exact hk
     ·refine h_ ⟨h1,i,h2,h3,fun j hj ho=> ?_⟩
      rcases a_ j k with h|h
      ·exact h4 j h ho
      ·obtain rfl:j=k:=by omega
       rw[hk]at ho;cases ho
   | true=>
     obtain⟨_,hp,hl⟩:=BD hk
     have hpos:0<(cyc l (k:Int)).length:=by omega
     rw[Ja,hk,Bool.or_true]
     refine h_ ⟨rfl, ?_⟩
     by_cases hc:0<(cyc l (k:Int)).length∧((eY l k).length=0∨(cyc l (k:Int)).length<(eY l k).length)
     ·refine⟨k,hk,Fq hc,fun j hj ho=> ?_⟩
      rcases a_ j k with h|h
      ·rcases vJ l k with⟨_,_,h3⟩|⟨_,i,h2,h3,h4⟩
       ·rw[h3 j h]at ho;cases ho
       ·have h5:=h4 j h ho
        rw[h3]at hc
        obtain⟨_,hp2,hl2⟩:=BD h2
        rcases hc.2 with h6|h6<;>omega
      ·obtain rfl:j=k:=by omega
       exact f_ _
     ·rw[BG hc]
      rcases vJ l k with⟨_,h2,_⟩|⟨_,i,h2,h3,h4⟩
      ·exact absurd ⟨hpos,c_ (by rw[h2];rfl)⟩ hc
      ·refine⟨i,h2,h3,fun j hj ho=> ?_⟩
       rcases a_ j k with h|h
       ·exact h4 j h ho
       ·obtain rfl:j=k:=by omega
        rw[h3]at hc
        exact Nat.le_of_not_lt (fun h6=>hc ⟨hpos,h_ h6⟩)
theorem adl(l:List GPart):Ja l l.length=decide (((eY l l.length).length:Int) > 0):=by
 rcases vJ l l.length with⟨h1,h2,_⟩|⟨h1,i,h2,h3,_⟩
 ·rw[h1,h2];rfl
 ·rw[h1,h3,RZ,h2]
theorem ae5{l:List GPart}{j:Nat}(hj:j<l.length)(h:onC l (j:Int)=true):(eY l l.length).length≤(cyc l (j:Int)).length:=by
 rcases vJ l l.length with⟨_,h2,_⟩|⟨_,i,_,h3,h4⟩
 ·rw[h2];exact b_ _
 ·rw[h3];exact h4 j hj h
theorem ZI{l:List GPart}{k m:Nat}(hk:k<(eY l l.length).length)(hm:m=(k+1) % (eY l l.length).length)(hm2:m<(eY l l.length).length):(eY l l.length)[m]∈du l (eY l l.length)[k]:=by
 rcases vJ l l.length with⟨_,h2,_⟩|⟨_,i,h1,h3,h4⟩
 ·rw[h2]at hk;simp at hk
 ·simp only[h3]at hk hm hm2⊢
  exact ac5 h1 hk hm hm2
theorem Vr(l:List GPart):(eY l l.length).Nodup:=by
 rcases vJ l l.length with⟨_,h2,_⟩|⟨_,i,h1,h3,h4⟩
 ·rw[h2];exact List.nodup_nil
 ·rw[h3];exact ZA h1
end Go.Proofs.YtfjmoicellpnhaaGreat
