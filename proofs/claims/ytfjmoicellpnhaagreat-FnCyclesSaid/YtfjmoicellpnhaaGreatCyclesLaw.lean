/-
  The reported cycle is a cycle, no cycle is shorter, and there is none exactly if nothing depends on itself.
-/
import Derived.Test.YtfjmoicellpnhaaGreatKD
set_option maxHeartbeats 32000000
set_option maxRecDepth 100000
namespace Go.Proofs.YtfjmoicellpnhaaGreat
open Go.RowKit
open Nat renaming zero_le→a_
attribute [local irreducible] sw sd sn
set_option linter.unusedSimpArgs false
set_option linter.unusedVariables false
theorem YJ(l:List GPart)(hw:l.length+D.wts (l.map GPart.toD)≤1048576):aV Tryz.prog 14 [.sl (l.map pF)] (.c false [.sl true ((lnz (eY l l.length)).map li)]):=by
 rw[CP]
 exact aV.pF (zi (Jl l hw))
theorem YK(l:List GPart)(hw:l.length+D.wts (l.map GPart.toD)≤1048576):aV Tryz.prog 12 [.sl (l.map pF)] (.c false [.sl true ((lnz (eY l l.length)).map li)]):=by
 rw[CP]
 exact aV.pF (zi (yU l hw))
theorem ZC(l:List GPart)(hw:l.length+D.wts (l.map GPart.toD)≤1048576):aV Tryz.prog 15 [.sl (l.map pF)] (.c false [.sl true ((uI l).map ls)]):=aV.pF (zi (Dh l hw))
theorem Y3(l:List GPart)(z:Int)(hw:l.length+D.wts (l.map GPart.toD)≤1048576):aV Tryz.prog 16 [.sl (l.map pF),li z] (.c false [.raw (.bool (onC l z))]):=aV.pF (iQ l z hw)
theorem ZB(l:List GPart)(z:Int)(hw:l.length+D.wts (l.map GPart.toD)≤1048576):aV Tryz.prog 17 [.sl (l.map pF),li z] (.c false [.sl true ((lnz (cyc l z)).map li)]):=by
 rw[CP]
 exact aV.pF (zi (xH l z hw))
def KP :IC:=(zd_ [zz_ 2 (.mov (.k (.slice none 0 0)))] (zd_ [zw_ 3 0,zq_ 4 56 3,zq_ 5 55 4,zw_ 2 5] .ret))
theorem NP :ay Tryz.prog (Tryz.f11.body.getD .skip)=some KP:=by kernel_rfl
theorem acY(l:List UInt8)(n:Bool)(hl:l.length≤1048576):jT Tryz.prog 11 [.c false [.sl n (l.map lu8)]] [] [] (fun r os' bs'=>∃(ps:List GPart) (i h:Int),ps.length≤9∧(∀p∈ps,p.toD.wt≤60000)∧(r= .c false [.sl false (ps.map pF)])∧os'= []∧bs'= [[.sl false (l.map lu8),.raw (.int .i64 i),.raw (.int .i64 h)]]):=by
 refine Yh (fn:=Tryz.f11) (rs:= [.tmp 2]) (hc:=NP) (h:= ?_)
 unfold KP;refine zb_ ?_
 change dK _ _ _ _ (stS 6 _ _ _)
 refine sS tdX ?_
 repeat' (first|(refine rg_ ?_;intro K hK)|(refine hq_ ?_;clear hK K)|refine ca_ ?_ ?_|((with_reducible refine aB ?_);first|((refine Ei (afx l _ _ _ hl (by simp[AC.fits]) (by simp[AC.fits])) ?_);rintro _ _ _ ⟨rfl,rfl,h,rfl⟩)|(refine aC false (h:=(YU l _ _ (by first|assumption|omega) (by first|assumption|omega) hl)) (hK:= ?_);rintro _ _ _ ⟨⟨ps,hp1,hp2,rfl⟩,rfl,i,h,hi0,hi1,rfl⟩))|((with_reducible refine ak ?_);refine ss tdE ?_)|refine nv ?_|(refine c2_ ?_ ?_<;>(intro hb hb';try(exfalso;omega)))|exact aA|exact au)
 all_goals exact⟨_,_,_,⟨ps,_,_,hp1,hp2,rfl,rfl,rfl⟩,a_ _,a_ _,trivial,⟨rfl,trivial⟩,rfl,rfl,rfl⟩
def U0 :IC:=(zd_ [zj_ 2 false] (.seq (zd_ [zw_ 11 0,zq_ 12 10 11] (.cond (.t 12) (zd_ [zj_ 2 true] .ret) .skip)) (zd_ [zw_ 13 0,zq_ 14 11 13,zw_ 3 14] (zd_ [zw_ 15 3,zq_ 16 12 15,zw_ 4 16] (.seq (zd_ [zw_ 17 4,zw_ 18 3,zq_ 19 14 18,zp_ 20 13 17 19,zz_ 21 (.not (.t 20)),zw_ 22 21,zu_ 23 22 3,zx_ 24 22 (.call 15 [(.t 23)]),zx_ 25 22 (.len false (.t 24)),zu_ 26 22 4,zx_ 27 22 (.len false (.t 26)),zx_ 28 22 (.bin .neq (.t 25) (.t 27)),zg_ 29 22 true 28] (.cond (.t 29) (zd_ [zj_ 2 false] .ret) .skip)) (zd_ [zj_ 5 false] (.seq (zd_ [zk_ 6 0] (.block 0 (.loop (.seq (zd_ [zw_ 30 6,zw_ 31 3,zf_ 32 false 31,zl_ 33 .lss 30 32] (.cond (.t 33) .skip (.exit 0))) (.seq (.block 1 (zd_ [zw_ 36 3,zw_ 37 6,zp_ 38 16 36 37,zw_ 7 38] (zd_ [zw_ 39 3,zw_ 40 6,zp_ 41 17 39 40,zw_ 8 41] (zd_ [zw_ 42 5,zw_ 43 42,zu_ 44 43 7,zg_ 45 43 true 44,zw_ 5 45] (zd_ [zw_ 46 7,zw_ 47 8,zf_ 48 false 47,zm_ 49 .gtr 48 0,zz_ 50 (.beq true (.t 46) (.t 49)),zw_ 51 50,zu_ 52 51 7,zu_ 53 51 52,zv_ 54 53 8,zy_ 55 53 (.iad 1 (.t 54) (.k (.int .i64 0))),zy_ 56 53 (.load 1 false (.t 55)),zv_ 57 53 6,zy_ 58 53 (.bin .neq (.t 56) (.t 57)),zv_ 59 53 58,zu_ 60 59 8,zx_ 61 59 (.len false (.t 60)),zu_ 62 59 4,zx_ 63 59 (.len false (.t 62)),zx_ 64 59 (.bin .lss (.t 61) (.t 63)),zy_ 65 53 (.pick (.t 59) (.k (.bool true)) (.t 64)),zx_ 66 51 (.pick (.t 53) (.t 65) (.k (.bool false))),zg_ 67 51 true 66] (.cond (.t 67) (zd_ [zj_ 2 false] .ret) .skip)))))) (.reg false [zw_ 34 6,zm_ 35 .add 34 1,zw_ 6 35])))))) (.seq (zd_ [zk_ 9 0] (.block 2 (.loop (.seq (zd_ [zw_ 68 9,zw_ 69 4,zf_ 70 false 69,zl_ 71 .lss 68 70] (.cond (.t 71) .skip (.exit 2))) (.seq (.block 3 (zd_ [zw_ 74 4,zw_ 75 9,zm_ 76 .add 75 1,zw_ 77 4,zf_ 78 false 77,zl_ 79 .rem 76 78,ze_ 80 1 74 79,zs_ 81 1 80,zw_ 10 81] (zd_ [zw_ 82 3,zw_ 83 4,zw_ 84 9,ze_ 85 1 83 84,zs_ 86 1 85,zp_ 87 19 82 86,zw_ 88 10,zp_ 89 18 87 88,zz_ 90 (.not (.t 89)),zw_ 91 90,zu_ 92 91 4,zu_ 93 91 4,zu_ 94 91 9,zx_ 95 91 (.iad 1 (.t 93) (.t 94)),zx_ 96 91 (.load 1 false (.t 95)),zx_ 97 91 (.call 20 [(.t 92),(.t 96)]),zx_ 98 91 (.bin .neq (.t 97) (.k (.int .i64 1))),zg_ 99 91 true 98] (.cond (.t 99) (zd_ [zj_ 2 false] .ret) .skip)))) (.reg false [zw_ 72 9,zm_ 73 .add 72 1,zw_ 9 73])))))) (zd_ [zw_ 100 5,zw_ 101 4,zf_ 102 false 101,zm_ 103 .gtr 102 0,zz_ 104 (.beq false (.t 100) (.t 103)),zw_ 2 104] .ret)))))))))
theorem KR :ay Tryz.prog (Tryz.f3.body.getD .skip)=some U0:=by kernel_rfl
theorem Zz(l:List UInt8)(hl:l.length≤1048576):aV Tryz.prog 3 [.sl (l.map lu8)] (.c false [.raw (.bool (true))]):=by
 refine dR (fn:=Tryz.f3) (t:=2) (hc:=KR) (h:= ?_)
 unfold U0;refine zb_ ?_
 change AWP _ _ _ (st0 105 _)
 refine sS tdX ?_
 have hB:=Oi l
 rw[decide_eq_false (by omega:¬(l.length:Int) > 1048576)]at hB
 repeat' (first|(refine rg_ ?_;intro K hK)|(refine hq_ ?_;clear hK K)|refine ca_ ?_ ?_|refine gq_ ?_|(refine c2_ ?_ ?_<;>(intro hb hb';try(exfalso;omega)))|((with_reducible refine aB ?_);first|refine aI (hc:=hB) (h:= ?_)|((refine Ei (acY l _ hl) ?_);rintro _ _ _ ⟨ps,i,h,hp1,hp2,rfl,rfl,rfl⟩))|((with_reducible refine ak ?_);refine ss tdE ?_)|refine nv ?_|exact aA|exact au)
 have hn:ps.length≤1048576:=by omega
 have hw:=PD hp1 hp2
 have a1:=YK ps hw
 have a2:=YJ ps hw
 have a3:=ZC ps hw
 have bl:=qQ ps ps.length
 have nl:(uI ps).length=(eY ps ps.length).length:=by simp[uI]
 obtain⟨b,hb⟩:∃b,b=lnz (eY ps ps.length):=⟨_,rfl⟩
 have lb:b.length=(eY ps ps.length).length:=by rw[hb,uU]
 have bl2:b.length≤1048576:=by omega
 rw[← hb]at a1 a2
 obtain⟨nm,hnm⟩:∃nm,nm=uI ps:=⟨_,rfl⟩
 rw[← hnm]at a3 nl
 have hnl:((nm.length:Int) !=(b.length:Int))=false:=by rw[nl,lb];simp
 clear hnm nl
 have s1:=DI b b bl2 bl2
 simp only[decide_true]at s1
 have hany:Ja ps ps.length=decide ((b.length:Int) > 0):=by rw[lb];exact adl ps
 have hle:∀{j:Nat},j<ps.length→onC ps (j:Int)=true→b.length≤(cyc ps (j:Int)).length:=fun hj h=>by rw[lb];exact ae5 hj h
 have hnd:∀{k:Nat} (hk:k<b.length),b.count b[k]=1:=fun{k} hk=>by
  have h1:(lnz (eY ps ps.length)).Nodup:=by
   unfold lnz
   exact List.Pairwise.map _ (fun a b h e=>h (Int.ofNat.inj e)) (Vr ps)
  rw[← hb]at h1
  rw[h1.count,if_pos (List.getElem_mem hk)]
 have hlk:∀{k m:Nat} (hk:k<b.length) (hm:m<b.length),m=(k+1) % b.length→decide (b[m]∈lnz (duI ps b[k]))=true:=fun{k m} hk hm e=>by
  subst hb
  rw[decide_eq_true_eq,Aw]
  refine⟨(eY ps ps.length)[m]'(by simpa[lnz]using hm), ?_,by simp[lnz]⟩
  have h1:=ZI (l:=ps) (k:=k) (m:=m) (by simpa[lnz]using hk) (by simpa[lnz]using e) (by simpa[lnz]using hm)
  simpa[lnz,pV]using h1
 clear hb lb bl
 repeat' (first|(refine rg_ ?_;intro K hK)|(refine hq_ ?_;clear hK K)|refine ca_ ?_ ?_|refine gq_ ?_|(refine c2_ ?_ ?_<;>(intro hb hb';try(exfalso;omega)))|((with_reducible refine aB ?_);first|refine aI (hc:=a1) (h:= ?_)|refine aI (hc:=a2) (h:= ?_)|refine aI (hc:=a3) (h:= ?_)|refine aI (hc:=s1) (h:= ?_))|((with_reducible refine ak ?_);refine ss (aho tdE hnl) ?_)|refine nv ?_|exact aA|exact au)
 have btt:(true !=true)=false:=rfl
 have bff:(false !=false)=false:=rfl
 refine aW (X:=Nat) (fun y=> [.d,.d,.d,.k,.k,.v (.c false [.raw (.bool (Ja ps y))]),.v (.c false [.raw (.int .i64 ((y:Nat)))]),.d,.d,.d,.d,.d,.d,.d,.d,.d,.d,.d,.d,.d,.d,.d,.d,.d,.d,.d,.d,.d,.d,.d,.d,.d,.d,.d,.d,.d,.d,.d,.d,.d,.d,.d,.d,.d,.d,.d,.d,.d,.d,.d,.d,.d,.d,.d,.d,.d,.d,.d,.d,.d,.d,.d,.d,.d,.d,.d,.d,.d,.d,.d,.d,.d,.d,.d,.d,.d,.d,.d,.d,.d,.d,.d,.d,.d,.d,.d,.d,.d,.d,.d,.d,.d,.d,.d,.d,.d,.d,.d,.d,.d,.d,.d,.d,.d,.d]) (fun _=> []) (fun _ _=> [[.sl false (l.map lu8),.raw (.int .i64 i),.raw (.int .i64 h)]]) (fun y=>y≤ps.length) (fun y=>ps.length - y) 0 (a_ _) ?_ ?_
 ·simp[aO,aX,aK,aN,AV.fits,AC.fits,FB,aG]
  rfl
 rintro y hy
 simp only[FB,aG]
 by_cases hlt:y<ps.length
 ·have hT :decide ((y:Int)<(ps.length:Int))=true:=decide_eq_true (by omega)
  have hw1:(y:Int)+1=((y+1:Nat):Int):=by omega
  have o1:=Y3 ps (y:Int) hw
  have w1:=ZB ps (y:Int) hw
  have hw2:=RZ ps y
  have hle2:= @hle y hlt
  have h0:= @aeT ps y
  have hanx:Ja ps (y+1)=(Ja ps y || onC ps (y:Int)):=rfl
  obtain⟨w,hww⟩:∃w,w=lnz (cyc ps (y:Int)):=⟨_,rfl⟩
  have lw:w.length=(cyc ps (y:Int)).length:=by rw[hww,uU]
  have lw2:w.length≤ps.length:=by rw[lw];exact BF _ _
  rw[← hww]at w1
  rw[← lw]at hw2 hle2
  have h02:onC ps (y:Int)=true→∀hh:0<w.length,w[0]=(y:Int):=fun ho hh=>by
   have h3:=h0 ho (by omega)
   simp only[hww,lnz,List.getElem_map]
   rw[h3];rfl
  clear hww h0 hle
  obtain⟨an,han⟩:∃an,an=Ja ps y:=⟨_,rfl⟩
  rw[← han]at hanx⊢
  cases ho:onC ps (y:Int)with
  | false =>
    rw[ho]at o1 hw2 hanx
    have elen:decide ((w.length:Int) > 0)=false:=hw2
    rw[Bool.or_false]at hanx
    clear han hle2 h02
    cases an with
    | false=>
      have eany:(false:Bool)=false:=rfl
      clear eany
      repeat' (first|(refine rg_ ?_;intro K hK)|(refine hq_ ?_;clear hK K)|refine ca_ ?_ ?_|refine gq_ ?_|(refine c2_ ?_ ?_<;>(intro hb hb';try(exfalso;omega)))|((with_reducible refine aB ?_);first|refine aI (hc:=o1) (h:= ?_)|refine aI (hc:=w1) (h:= ?_))|((with_reducible refine ak ?_);refine ss (aho tdE (aho hT (aho hw1 (aho bff (aho btt elen))))) ?_)|refine nv ?_|exact aA|exact au)
      all_goals first
       |exact dQ _
       | (refine aS (y+1) ?_ (show y+1≤ps.length by omega) (show ps.length - (y+1)<ps.length - y by omega)
          simp[aO,aX,aK,aN,AV.fits,AC.fits,FB,aG,hanx]
          done)
    | true=>
      repeat' (first|(refine rg_ ?_;intro K hK)|(refine hq_ ?_;clear hK K)|refine ca_ ?_ ?_|refine gq_ ?_|(refine c2_ ?_ ?_<;>(intro hb hb';try(exfalso;omega)))|((with_reducible refine aB ?_);first|refine aI (hc:=o1) (h:= ?_)|refine aI (hc:=w1) (h:= ?_))|((with_reducible refine ak ?_);refine ss (aho tdE (aho hT (aho hw1 (aho bff (aho btt elen))))) ?_)|refine nv ?_|exact aA|exact au)
      all_goals first
       |exact dQ _
       | (refine aS (y+1) ?_ (show y+1≤ps.length by omega) (show ps.length - (y+1)<ps.length - y by omega)
          simp[aO,aX,aK,aN,AV.fits,AC.fits,FB,aG,hanx]
          done)
  | true=>
    rw[ho]at o1 hw2 hanx
    have elen:decide ((w.length:Int) > 0)=true:=hw2
    have hwp:0<w.length:=by simpa using hw2
    have hl3:=hle2 ho
    have ele:decide ((w.length:Int)<(b.length:Int))=false:=decide_eq_false (by omega)
    have g0:idx (w.map li) (some 0)=some (li (y:Int)):=by
     have:=dD li w hwp
     rw[h02 ho hwp]at this
     exact this
    have eyy:((y:Int) !=(y:Int))=false:=by simp
    rw[Bool.or_true]at hanx
    clear han hle2 h02
    cases an with
    | false=>
      repeat' (first|(refine rg_ ?_;intro K hK)|(refine hq_ ?_;clear hK K)|refine ca_ ?_ ?_|refine gq_ ?_|(refine c2_ ?_ ?_<;>(intro hb hb';try(exfalso;omega)))|((with_reducible refine aB ?_);first|refine aI (hc:=o1) (h:= ?_)|refine aI (hc:=w1) (h:= ?_))|((with_reducible refine ak ?_);refine ss (aho tdE (aho hT (aho hw1 (aho bff (aho btt (aho elen (aho g0 (aho eyy ele)))))))) ?_)|refine nv ?_|exact aA|exact au)
      all_goals first
       |exact dQ _
       | (refine aS (y+1) ?_ (show y+1≤ps.length by omega) (show ps.length - (y+1)<ps.length - y by omega)
          simp[aO,aX,aK,aN,AV.fits,AC.fits,FB,aG,hanx]
          done)
    | true=>
      repeat' (first|(refine rg_ ?_;intro K hK)|(refine hq_ ?_;clear hK K)|refine ca_ ?_ ?_|refine gq_ ?_|(refine c2_ ?_ ?_<;>(intro hb hb';try(exfalso;omega)))|((with_reducible refine aB ?_);first|refine aI (hc:=o1) (h:= ?_)|refine aI (hc:=w1) (h:= ?_))|((with_reducible refine ak ?_);refine ss (aho tdE (aho hT (aho hw1 (aho bff (aho btt (aho elen (aho g0 (aho eyy ele)))))))) ?_)|refine nv ?_|exact aA|exact au)
      all_goals first
       |exact dQ _
       | (refine aS (y+1) ?_ (show y+1≤ps.length by omega) (show ps.length - (y+1)<ps.length - y by omega)
          simp[aO,aX,aK,aN,AV.fits,AC.fits,FB,aG,hanx]
          done)
 ·obtain rfl:y=ps.length:=by omega
  have hT:decide ((ps.length:Int)<(ps.length:Int))=false:=decide_eq_false (by omega)
  rw[hany]
  obtain⟨qq,eq1⟩:∃qq,decide ((b.length:Int) > 0)=qq:=⟨_,rfl⟩
  rw[eq1]
  have eq2:(qq==qq)=true:=by simp
  repeat' (first|(refine rg_ ?_;intro K hK)|(refine hq_ ?_;clear hK K)|refine ca_ ?_ ?_|refine gq_ ?_|(refine c2_ ?_ ?_<;>(intro hb hb';try(exfalso;omega)))|((with_reducible refine ak ?_);refine ss (aho tdE hT) ?_)|refine nv ?_|exact aA|exact au)
  refine aW (X:=Nat) (fun x=> [.d,.d,.d,.k,.k,.k,.d,.d,.d,.v (.c false [.raw (.int .i64 ((x:Nat)))]),.d,.d,.d,.d,.d,.d,.d,.d,.d,.d,.d,.d,.d,.d,.d,.d,.d,.d,.d,.d,.d,.d,.d,.d,.d,.d,.d,.d,.d,.d,.d,.d,.d,.d,.d,.d,.d,.d,.d,.d,.d,.d,.d,.d,.d,.d,.d,.d,.d,.d,.d,.d,.d,.d,.d,.d,.d,.d,.d,.d,.d,.d,.d,.d,.d,.d,.d,.d,.d,.d,.d,.d,.d,.d,.d,.d,.d,.d,.d,.d,.d,.d,.d,.d,.d,.d,.d,.d,.d,.d,.d,.d,.d,.d,.d]) (fun _=> []) (fun _ _=> [[.sl false (l.map lu8),.raw (.int .i64 i),.raw (.int .i64 h)]]) (fun x=>x≤b.length) (fun x=>b.length - x) 0 (a_ _) ?_ ?_
  ·simp[aO,aX,aK,aN,AV.fits,AC.fits,FB,aG]
  rintro x hx
  simp only[FB,aG]
  by_cases hlx:x<b.length
  ·have hTx:decide ((x:Int)<(b.length:Int))=true:=decide_eq_true (by omega)
   have hwx:(x:Int)+1=((x+1:Nat):Int):=by omega
   have hml:(x+1) % b.length<b.length:=Nat.mod_lt _ (by omega)
   obtain⟨m,em⟩:∃m,m=(x+1) % b.length:=⟨_,rfl⟩
   rw[← em]at hml
   have hz:((b.length:Int)=0)=False:=eq_false (by omega)
   have hm2:((x+1:Nat):Int).tmod (b.length:Int)=(m:Int):=by rw[em];exact(Int.ofNat_tmod _ _).symm
   have hm:((x:Int)+1).tmod (b.length:Int)=(m:Int):=by rw[hwx];exact hm2
   have gx:idx (b.map li) (some (x:Int))=some (li b[x]):=dD li b hlx
   have gm:idx (b.map li) (some (m:Int))=some (li b[m]):=dD li b hml
   have d1:=Lp ps b[x] hw
   have l1:=N8 ps b[x]
   have q1:=U8 (lnz (duI ps b[x])) b[m] (by rw[uU];omega)
   rw[hlk hlx hml em]at q1
   have t1:=OC b b[x] bl2
   rw[hnd hlx]at t1
   have e11:((((1:Nat):Int)) !=1)=false:=rfl
   obtain⟨u,hu⟩:∃u,u=lnz (duI ps b[x]):=⟨_,rfl⟩
   rw[← hu]at d1 q1
   clear hu l1 em hlk hnd
   repeat' (first|(refine rg_ ?_;intro K hK)|(refine hq_ ?_;clear hK K)|refine ca_ ?_ ?_|refine gq_ ?_|(refine c2_ ?_ ?_<;>(intro hb hb';try(exfalso;omega)))|((with_reducible refine aB ?_);first|refine aI (hc:=d1) (h:= ?_)|refine aI (hc:=q1) (h:= ?_)|refine aI (hc:=t1) (h:= ?_))|((with_reducible refine ak ?_);refine ss (aho tdE (aho hTx (aho hwx (aho gx (aho gm (aho hz (aho hm (aho hm2 e11)))))))) ?_)|refine nv ?_|exact aA|exact au)
   all_goals first
    |exact dQ _
    | (refine aS (x+1) ?_ (show x+1≤b.length by omega) (show b.length - (x+1)<b.length - x by omega)
       simp[aO,aX,aK,aN,AV.fits,AC.fits,FB,aG]
       done)
  ·have hTx:decide ((x:Int)<(b.length:Int))=false:=decide_eq_false (by omega)
   repeat' (first|(refine rg_ ?_;intro K hK)|(refine hq_ ?_;clear hK K)|refine ca_ ?_ ?_|refine gq_ ?_|(refine c2_ ?_ ?_<;>(intro hb hb';try(exfalso;omega)))|((with_reducible refine ak ?_);refine ss (aho tdE (aho hTx (aho eq1 eq2))) ?_)|refine nv ?_|exact aA|exact au)
   all_goals exact bC ⟨_,rfl,⟨rfl,trivial⟩⟩
theorem aeS(l:List UInt8)(hl:¬l.length≤1048576):aV Tryz.prog 3 [.sl (l.map lu8)] (.c false [.raw (.bool (true))]):=by
 refine dR (fn:=Tryz.f3) (t:=2) (hc:=KR) (h:= ?_)
 unfold U0;refine zb_ ?_
 change AWP _ _ _ (st0 105 _)
 refine sS tdX ?_
 have hB:=Oi l
 rw[decide_eq_true (by omega:(l.length:Int) > 1048576)]at hB
 repeat' (first|(refine rg_ ?_;intro K hK)|(refine hq_ ?_;clear hK K)|refine ca_ ?_ ?_|refine gq_ ?_|(refine c2_ ?_ ?_<;>(intro hb hb';try(exfalso;omega)))|((with_reducible refine aB ?_);first|refine aI (hc:=hB) (h:= ?_))|((with_reducible refine ak ?_);refine ss (aho tdC @iW) ?_)|refine nv ?_|(exact GCell.el _)|exact aA|exact au)
 exact bC ⟨_,rfl,⟨rfl,trivial⟩⟩
theorem Np(l:List UInt8)(fp:List Nat)(v:Value)(w:World)(h:Sl w (l.map lu8) fp v):Calls Tryz.prog 3 #[v] w (Ti w):=by
 have hC:aV Tryz.prog 3 [.sl (l.map lu8)] (.c false [.raw (.bool (true))]):=by
  by_cases hl:l.length≤1048576
  ·exact Zz l hl
  ·exact aeS l hl
 refine(abz hC (vs:= [v]) ⟨Ph h,trivial⟩).mono ?_
 rintro e w' ⟨h1,h2⟩
 exact⟨h1,h2⟩
open Go.ChangeShapes Go.WideShapes Go.ChangeAt
theorem EC(os:Os)(started:os.Started)(H:Type)(enc:TypeId×Value→H):
 ReturnsInHanded {} Tryz.checked os 3 .any (Rows.fnCyclesSpec.pre6 enc Tryz.prog Tryz.f3 Rows.fnCyclesRow.domain false) (Rows.fnCyclesSpec.post enc Tryz.prog Tryz.f3 false true false false):=by
 refine returnsInHanded_of_change (C:=Tryz.checked) agQ started (by kernel_rfl) Tryz.func3
  (ChangeSpec.witness6 (enc:=enc) (C:=Tryz.checked) false ⟨#[], #[.slice none 0 0],[]⟩ 8 (by kernel_rfl) (by kernel_rfl) (by kernel_rfl) (by kernel_rfl)) ?_
 intro W base args ds gs before hval0 hW hcnd _
 have hval:∀(j:Nat) t v,Tryz.f3.params[j]? =some t→args[j]? =some v→Value.okWide Tryz.prog W .any base t v:=hval0
 have hW':=hW
 obtain⟨p,q,hA0,hV,rfl,hfz,hnd⟩:=hW
 have hA:DataW.TrodAll enc Tryz.prog W 0 (fun _=>true) true Tryz.f3.params.toList args.toList ds p:=hA0
 rw[Tryz.params3]at hA hval
 obtain⟨v0,vs0,d0,ds0,p0,q0,ha0,rfl,rfl,h0,r0⟩:=trodAll_cons hA
 obtain⟨rfl,rfl,rfl⟩:=trodAll_nil r0
 obtain rfl:args= #[v0]:=by cases args;simp_all
 obtain⟨rfl,rfl⟩:=trodVars_none hV
 obtain⟨l0,fx0,hx0,wx0⟩:=LQ Tryz.underlying22 (hval 0 22 v0 rfl rfl) (fun n=>aaP n) h0
 clear hA0 hval0
 have hlt:∀z∈p0++ [],z.block<W.heap.size:=fun z hz=>hW'.lt z (by simpa using hz)
 refine(Np l0 fx0 _ W hx0).mono fun e W' ⟨he,hb⟩=> ?_
 subst he
 exact⟨_,rfl,yX (pa:=p0++ []) (pv:= []) hW' (fun _ _ _=>trodAll_mk1 (shut_bool Tryz.underlying4 _))
  (fun sp hsp=>⟨_,_,WideElems.Trod_stays PZ (by kernel_rfl) (of_decide_eq_true (by kernel_rfl)) h0 (fun z hz=>hb.same (hlt z (List.mem_append_left _ hz))) (fun z hz=>hsp z (by simp[hz])),rfl,rfl⟩) (fun _ _=>rfl) (by simp) hb (ok_one (by kernel_rfl) rfl (okWide_bool_mk Tryz.underlying4 _))⟩
theorem proved_FnCycles :Rows.FnCyclesSaid:=
 OpenClaim.holds_of_wide 3 Tryz.f3 rfl rfl rfl rfl rfl rfl rfl ⟨rfl,rfl,rfl,rfl,rfl⟩ rfl rfl rfl rfl rfl (by kernel_rfl) Tryz.func3 (by kernel_rfl)
  (of_decide_eq_true (by kernel_rfl)) (by unfold Func.isWrapper;first|(rw[if_pos (by decide+kernel)];kernel_rfl)|(rw[if_neg (by decide+kernel)];exact⟨rfl,rfl⟩))
  (fun os started H enc _=>EC os started H enc)
end Go.Proofs.YtfjmoicellpnhaaGreat
