/-
  Texts joined: PNb Fip.
-/
import Derived.Test.YtfengkmaphbofaaGreatDoorJI
import Derived.Test.YtfengkmaphbofaaGreatDoorJK
import Derived.Test.YtfengkmaphbofaaGreatDoorJA
set_option maxHeartbeats 16000000
set_option linter.unusedSimpArgs false
set_option linter.unusedVariables false
namespace Go.Proofs.YtfengkmaphbofaaGreatDoor
open Go.RowKit
section
open Value renaming oneCell'→a_
open List renaming drop_zero→b_,flatMap_cons→h_,flatMap_nil→i_,append_nil→j_,getElem?_eq_getElem→k_,length_cons→l_,getD_eq_getElem?_getD→m_,length_nil→n_,length_take→o_,getElem_mem→p_,length_append→q_,take_append_getElem→r_,length_map→t_,map_map→u_,cons_append→w_,mem_map→y_,length_pos_iff→z_,foldr_cons→A_,eq_nil_of_length_eq_zero→B_,getElem?_take_of_lt→C_,take_of_length_le→E_,take_succ_eq_append_getElem→F_,nil_append→G_,mem_of_mem_take→H_,replicate→J_,map_cons→K_,map_take→L_,mem_cons→M_,map_congr_left→N_,map_nil→O_,all_eq_true→P_,take_length→R_,take_left→U_,foldr_nil→V_,map_id→X_
open Nat renaming reduceLeDiff→c_,reduceEqDiff→d_,reduceAdd→e_,reduceSub→f_,le_refl→v_,zero_le→x_,succ_pos→D_,le_trans→W_
open Bool renaming false_eq_true→g_,and_eq_true→s_
open Option.some renaming inj→I_
attribute [local irreducible] sw sd sn
theorem iV(l:List D):(D.agg l).flat=D.jk l:=by rw[D.flat]
theorem gQ(d:D)(l:List D):D.jk (d::l)=d.flat++D.jk l:=by rw[D.jk]
theorem gZ :D.jk []= []:=by rw[D.jk]
theorem jr(l:List D):(D.agg l).isAgg=true:=rfl
theorem dK.args{P:Program}{f:Nat}{ds ds':List D}{r:AV}(h:dK P f ds r)(hr:∀w vs,Rds w ds' vs→Rds w ds vs):dK P f ds' r:=fun w vs h1 h2=>h w vs (hr w vs h1) h2
theorem Uf(w:World):Sl w [] [] (.slice none 0 0):=by
 unfold Sl;rw[R];exact⟨none,0,rfl,v_ _,x_ _,Or.inl ⟨rfl,rfl⟩⟩
def nlL(s:ByteArray):List ByteArray:=cut nlB s
def kT(s:ByteArray):List ByteArray:=(nlL s).take ((nlL s).length - 1)
def qx(s:ByteArray):ByteArray:=(nlL s).getD ((nlL s).length - 1) ⟨#[]⟩
def okC(s:ByteArray):Bool:=(fB s).2
def iH(s:ByteArray):GCell:=(fB s).1
def dX(s:ByteArray):List GCell×Bool:=
 if((qx s).toList==(⟨#[]⟩:ByteArray).toList)=true then(if FN okC (kT s)=true then(if gu ((kT s).map iH)=true then((kT s).map iH,true)else([],false))else([],false))else([],false)
theorem kH{s:ByteArray}(hs:s.size≤1048576):(iH s).toD.wf:=by
 unfold iH fB;by_cases h:(cut spB s).length<6
 ·rw[if_pos h];rw[GCell.bQ];exact⟨jT (by decide) (by decide),jT (by decide) (by decide),jT (by decide) (by decide),x_ _,x_ _,jT (by decide) (by decide),trivial⟩
 ·rw[if_neg h];have h4:(wAt (cut spB s) 4).size≤1048576:=W_ (wZ (by omega)) hs;split
  ·exact wu h4 (W_ (qN s) hs)
  ·rw[GCell.bQ];exact⟨jT (by decide) (by decide),jT (by decide) (by decide),jT (by decide) (by decide),x_ _,x_ _,jT (by decide) (by decide),trivial⟩
theorem yK :∀{l:List D},(∀d∈l,d.wf)→D.wfs l
 | [],_=>trivial
 |d::l,h=>⟨h d (by simp),yK fun x hx=>h x (by simp[hx])⟩
theorem nS{α β:Type}(f:α→β)(l:List α){k:Nat}(h:k<l.length):(l.map f).take (k+1)=(l.map f).take k++ [f l[k]]:=by
 rw[F_ (by simpa using h),List.getElem_map]
def zV :IC:=(zd_ [zz_ 2 (.alloc [(.slice none 0 0)]),zj_ 3 false] (zd_ [zw_ 9 0,zz_ 10 (.call 32 [(.t 9),(.k (.int .u8 10))]),zw_ 4 10] (zd_ [zz_ 11 (.bld [(.slice none 0 0)] []),zz_ 5 (.alloc [(.slice none 0 0)]),⟨none,none,.store 1 (.t 5) (.t 11)⟩] (.seq (zd_ [zw_ 12 4,zw_ 13 4,zf_ 14 false 13,zm_ 15 .sub 14 1,ze_ 16 1 12 15,zs_ 17 1 16,zz_ 18 (.bin .neq (.t 17) (.k (.string ⟨#[]⟩)))] (.cond (.t 18) (zd_ [zr_ 19 1 5,⟨none,none,.store 1 (.t 2) (.t 19)⟩,zj_ 3 false] .ret) .skip)) (.seq (zd_ [zk_ 6 0] (.block 0 (.loop (.seq (zd_ [zw_ 20 6,zw_ 21 4,zf_ 22 false 21,zm_ 23 .sub 22 1,zl_ 24 .lss 20 23] (.cond (.t 24) .skip (.exit 0))) (.seq (.block 1 (zd_ [zw_ 28 4,zw_ 29 6,ze_ 30 1 28 29,zs_ 31 1 30,zq_ 32 55 31,zw_ 27 32,zz_ 33 (.ext 0 (.t 27)),zz_ 34 (.ext 1 (.t 27)),zz_ 7 (.alloc [(.int .i64 0),(.int .i64 0),(.int .i64 0),(.string ⟨#[]⟩),(.string ⟨#[]⟩),(.int .i64 0)]),⟨none,none,.store 6 (.t 7) (.t 33)⟩,zw_ 8 34] (.seq (zd_ [zw_ 35 8,zz_ 36 (.not (.t 35))] (.cond (.t 36) (zd_ [zz_ 37 (.bld [(.slice none 0 0)] []),⟨none,none,.store 1 (.t 2) (.t 37)⟩,zj_ 3 false] .ret) .skip)) (.reg false [zt_ 38 0 5,zs_ 39 1 38,zr_ 40 6 7,zz_ 41 (.brow false 45 6 1 false [(.t 40)]),zz_ 42 (.app 45 6 (.t 39) (.t 41)),zt_ 43 0 5,⟨none,none,.store 1 (.t 43) (.t 42)⟩])))) (.reg false [zw_ 25 6,zm_ 26 .add 25 1,zw_ 6 26])))))) (.seq (zd_ [zr_ 44 1 5,zq_ 45 16 44,zz_ 46 (.not (.t 45))] (.cond (.t 46) (zd_ [zz_ 47 (.bld [(.slice none 0 0)] []),⟨none,none,.store 1 (.t 2) (.t 47)⟩,zj_ 3 false] .ret) .skip)) (zd_ [zr_ 48 1 5,⟨none,none,.store 1 (.t 2) (.t 48)⟩,zj_ 3 true] .ret)))))))
theorem Dv :bg Tryz.prog (Tryz.f19.body.getD .skip)=some zV:=by kernel_rfl
theorem tJ(s:ByteArray)(hs:s.size≤1048576):dK Tryz.prog 19 [ls s] (.tup [(true,[.sl true ((dX s).1.map GCell.toD)]),(false,[.raw (.bool (dX s).2)])]):=by
 refine nY (fn:=Tryz.f19) (r:= .cell 2 36) (q:= .tmp 3) (hc:=Dv) (h:= ?_);unfold zV;refine zb_ ?_;change AWP _ _ _ (st0 49 _);simp only[undef,stS,st0,stN,D.av,D.avN,aW,aN,aY,aX,aO,iL,aK,aJ,K_,O_,J_,w_,G_,l_,n_,e_,f_];obtain⟨lines,hlines⟩:∃l,nlL s=l:=⟨_,rfl⟩
 have hsp:dK Tryz.prog 32 [ls s,.leaf (.int .u8 10)] (.c false [.sl true (lines.map ls)]):=by
  rw[← hlines];exact qF s 10 hs
 have hne:0<lines.length:=by rw[← hlines];exact z_.2 (wO _ _)
 have hlz:lines.length≤1048577:=by have:=zo nlB s (by decide);rw[← hlines];unfold nlL;omega
 obtain⟨bd,hbd⟩:∃b,kT s=b:=⟨_,rfl⟩
 have hbe:lines.take (lines.length - 1)=bd:=by rw[← hbd,← hlines];rfl
 have hbn:bd.length=lines.length - 1:=by rw[← hbe,o_];omega
 have hbz:∀x∈bd,x.size≤1048576:=fun x hx=>by
  rw[← hbe]at hx;have h1:=H_ hx;rw[← hlines]at h1;have:=rU (sep:=nlB) (by decide) h1;omega
 have hget:∀k (h:k<bd.length),bd[k]=lines[k]'(by omega):=fun k h=>by
  have:bd[k]? =lines[k]? :=by rw[← hbe,C_ (by omega)]
  rw[k_ h,k_ (by omega)]at this;exact I_ this
 have hw1:IntKind.i64.wrap ((lines.length:Int) - 1)=((bd.length:Nat):Int):=by rw[iY (by omega) (by omega)];omega
 have hT:(lines.map ls).take bd.length=bd.map ls:=by rw[← L_,hbn,hbe]
 have hbl:lJ none (some ((bd.length:Nat):Int)) lines.length=some (0,bd.length):=xk (by omega);have hmin:min bd.length lines.length=bd.length:=by omega
 have hL:idx (lines.map ls) (some ((bd.length:Nat):Int))=some (ls (qx s)):=by
  rw[gK ls lines (by omega)];unfold qx;rw[hlines,← hbn,m_,k_ (by omega)];rfl
 have hcw:∀x∈bd.map iH,x.toD.wf:=fun x hx=>by
  obtain⟨y,hy,rfl⟩:=y_.1 hx;exact kH (hbz y hy)
 cases hq:((qx s).toList==(⟨#[]⟩:ByteArray).toList)with
 | false=>
   have hr:dX s=([],false):=by unfold dX;rw[hq];rfl
   rw[hr]
   repeat' (first|(with_reducible first|refine dG ?_|refine bK ?_|refine cO ?_|refine cZ ?_|refine dH ?_|refine eU ?_|refine bW ?_|refine dF ?_|refine aZ ?_|refine bG ?_|refine cu ?_|refine bD ?_|refine bZ ?_|refine bn ?_|refine bC ?_)|((with_reducible refine bF ?_ ?_);rfl)|((with_reducible refine bH ?_ ?_);rfl)|((with_reducible refine bJ ?_ ?_);rfl)|(with_reducible (refine bI rfl ?_ ?_);all_goals(intro hb;have hb':=hb;(try simp only[pkC]at hb');try(exfalso;omega)))|(refine rg_ ?_;intro K hK)|(refine hq_ ?_;clear hK K)|refine ca_ ?_ ?_|(refine cg_ ?_;first|refine cT_ hsp ?_)|((with_reducible refine eF ?_);simp(disch:=first|decide|omega) only[↓pkS,pkW,pkA,undef,h_,i_,j_,dw,fG,lvD,fK,lcD,lvK,lcK,dh,dB,dA,ex,St.put,St.ev,kav,gdA,opI,dZ,fJ,dV,fF,fM,AV.toD,AC.toD,AV.nw,AC.nw,AC.one,a_,aA,aj,au,ay,bf,aV,if_true,if_false,g_,dW,D.one,D.ones,D.sz,D.szs,e_,f_,c_,d_,reduceIte,pkN,aK,aJ,aO,GCell.aG,GCell.aB,GCell.aI,GCell.el,GNb.aG,GNb.aB,GNb.aI,aF,aC,hw1,hT,hbl,hL,hmin,hq,b_])|(first|(with_reducible rfl)|(with_reducible refine dD ?_;kernel_rfl)|exact aC _|exact aF _|exact el_ln _|exact el_tk _ _|exact el_td _ _ _|omega|(simp;done)|(simp;omega))|((with_reducible refine dI ?_);simp[aP,bP,bM,dL,AC.toD,aA,aj,au,ay,a_,aQ,aH,aU,aS,aW,aN,aY,aX,dQ,dR,aK,aJ,aO,GCell.aG,GCell.aB,GCell.aI,GCell.el,GNb.aG,GNb.aB,GNb.aI,aF,aC,hw1,hT,hbl,hL,hmin,hq,b_];first|done|rfl))
   exact dS ⟨⟨0,_,rfl,rfl,⟨rfl,rfl⟩,trivial⟩,⟨_,rfl,rfl,trivial⟩⟩
 |true=>
 repeat' (first|(with_reducible first|refine dG ?_|refine bK ?_|refine cO ?_|refine cZ ?_|refine dH ?_|refine eU ?_|refine bW ?_|refine dF ?_|refine aZ ?_|refine bG ?_|refine cu ?_|refine bD ?_|refine bZ ?_|refine bn ?_|refine bC ?_)|((with_reducible refine bF ?_ ?_);rfl)|((with_reducible refine bH ?_ ?_);rfl)|((with_reducible refine bJ ?_ ?_);rfl)|(with_reducible (refine bI rfl ?_ ?_);all_goals(intro hb;have hb':=hb;(try simp only[pkC]at hb');try(exfalso;omega)))|(refine rg_ ?_;intro K hK)|(refine hq_ ?_;clear hK K)|refine ca_ ?_ ?_|(refine cg_ ?_;first|refine cT_ hsp ?_)|((with_reducible refine eF ?_);simp(disch:=first|decide|omega) only[↓pkS,pkW,pkA,undef,h_,i_,j_,dw,fG,lvD,fK,lcD,lvK,lcK,dh,dB,dA,ex,St.put,St.ev,kav,gdA,opI,dZ,fJ,dV,fF,fM,AV.toD,AC.toD,AV.nw,AC.nw,AC.one,a_,aA,aj,au,ay,bf,aV,if_true,if_false,g_,dW,D.one,D.ones,D.sz,D.szs,e_,f_,c_,d_,reduceIte,pkN,aK,aJ,aO,GCell.aG,GCell.aB,GCell.aI,GCell.el,GNb.aG,GNb.aB,GNb.aI,aF,aC,hw1,hT,hbl,hL,hmin,hq,b_])|(first|(with_reducible rfl)|(with_reducible refine dD ?_;kernel_rfl)|exact aC _|exact aF _|exact el_ln _|exact el_tk _ _|exact el_td _ _ _|omega|(simp;done)|(simp;omega))|((with_reducible refine dI ?_);simp[aP,bP,bM,dL,AC.toD,aA,aj,au,ay,a_,aQ,aH,aU,aS,aW,aN,aY,aX,dQ,dR,aK,aJ,aO,GCell.aG,GCell.aB,GCell.aI,GCell.el,GNb.aG,GNb.aB,GNb.aI,aF,aC,hw1,hT,hbl,hL,hmin,hq,b_];first|done|rfl))
 refine iU (X:=Nat×Option Nat) (fun q=> [.d,.d,.k,.d,.k,.k,.v (.c false [.raw (.int .i64 (q.1:Nat))])]) (fun q=>match q.2 with|none=> []|some w=> [⟨((bd.map (GCell.toD∘iH)).take q.1),45,6,w,true⟩]) (fun q bs=> [[.raw (.slice none 0 0)],[match q.2 with|none=> .raw (.slice none 0 0)|some w=> .own 0 w]]) (fun q=>q.1≤bd.length∧allN (pAt okC bd) q.1=true∧(match q.2 with|none=>q.1=0|some _=>0<q.1)) (fun q=>bd.length - q.1) (0,none) ⟨x_ _,rfl,rfl⟩ ?_ ?_
 ·simp[gI,iM,gq,gJ,AV.fits,AC.fits,FB,fP]
 rintro⟨k,_|v⟩ ⟨hk,hall,hk0⟩
 ·simp only at hk hall hk0;subst hk0;simp only[FB,fP];by_cases hlk:0<bd.length
  ·have hpc:=qH bd[0] (hbz _ (p_ hlk));have hg:idx (lines.map ls) (some ((0:Nat):Int))=some (ls bd[0]):=by rw[gK ls lines (by omega)];congr 2;exact(hget 0 hlk).symm
   rw[GCell.aG]at hpc;have hcc:(fB bd[0]).1=iH bd[0]:=rfl;rw[hcc]at hpc;cases hh:okC bd[0]with
   | false=>
     have hpb:(fB bd[0]).2=false:=hh;rw[hpb]at hpc;have hr:dX s=([],false):=by unfold dX;rw[hq,hbd,oq hlk hh];rfl
     rw[hr]
     repeat' (first|(with_reducible first|refine dG ?_|refine bK ?_|refine cO ?_|refine cZ ?_|refine dH ?_|refine eU ?_|refine bW ?_|refine dF ?_|refine aZ ?_|refine bG ?_|refine cu ?_|refine bD ?_|refine bZ ?_|refine bn ?_|refine bC ?_)|((with_reducible refine bF ?_ ?_);rfl)|((with_reducible refine bH ?_ ?_);rfl)|((with_reducible refine bJ ?_ ?_);rfl)|(with_reducible (refine bI rfl ?_ ?_);all_goals(intro hb;have hb':=hb;(try simp only[pkC]at hb');try(exfalso;omega)))|(refine rg_ ?_;intro K hK)|(refine hq_ ?_;clear hK K)|refine ca_ ?_ ?_|(refine cg_ ?_;first|refine cT_ hpc ?_)|((with_reducible refine eF ?_);simp(disch:=first|decide|omega) only[↓pkS,pkW,pkA,undef,h_,i_,j_,dw,fG,lvD,fK,lcD,lvK,lcK,dh,dB,dA,ex,St.put,St.ev,kav,gdA,opI,dZ,fJ,dV,fF,fM,AV.toD,AC.toD,AV.nw,AC.nw,AC.one,a_,aA,aj,au,ay,bf,aV,if_true,if_false,g_,dW,D.one,D.ones,D.sz,D.szs,e_,f_,c_,d_,reduceIte,pkN,aK,aJ,aO,GCell.aG,GCell.aB,GCell.aI,GCell.el,GNb.aG,GNb.aB,GNb.aI,aF,aC,hw1,hT,hbl,hL,hmin,hq,b_,hg])|(first|(with_reducible rfl)|(with_reducible refine dD ?_;kernel_rfl)|exact aC _|exact aF _|exact el_ln _|exact el_tk _ _|exact el_td _ _ _|omega|(simp;done)|(simp;omega))|((with_reducible refine dI ?_);simp[aP,bP,bM,dL,AC.toD,aA,aj,au,ay,a_,aQ,aH,aU,aS,aW,aN,aY,aX,dQ,dR,aK,aJ,aO,GCell.aG,GCell.aB,GCell.aI,GCell.el,GNb.aG,GNb.aB,GNb.aI,aF,aC,hw1,hT,hbl,hL,hmin,hq,b_,hg];first|done|rfl))
     exact dS ⟨⟨0,_,rfl,rfl,⟨rfl,rfl⟩,trivial⟩,⟨_,rfl,rfl,trivial⟩⟩
   | true=>
     have hpb:(fB bd[0]).2=true:=hh;rw[hpb]at hpc;have hs1:=oh hall ((sH okC hlk).trans hh);have htk:=nS (GCell.toD∘iH) bd hlk
     repeat' (first|(with_reducible first|refine dG ?_|refine bK ?_|refine cO ?_|refine cZ ?_|refine dH ?_|refine eU ?_|refine bW ?_|refine dF ?_|refine aZ ?_|refine bG ?_|refine cu ?_|refine bD ?_|refine bZ ?_|refine bn ?_|refine bC ?_)|((with_reducible refine bF ?_ ?_);rfl)|((with_reducible refine bH ?_ ?_);rfl)|((with_reducible refine bJ ?_ ?_);rfl)|(with_reducible (refine bI rfl ?_ ?_);all_goals(intro hb;have hb':=hb;(try simp only[pkC]at hb');try(exfalso;omega)))|(refine rg_ ?_;intro K hK)|(refine hq_ ?_;clear hK K)|refine ca_ ?_ ?_|(refine cg_ ?_;first|refine cT_ hpc ?_)|((with_reducible refine eF ?_);simp(disch:=first|decide|omega) only[↓pkS,pkW,pkA,undef,h_,i_,j_,dw,fG,lvD,fK,lcD,lvK,lcK,dh,dB,dA,ex,St.put,St.ev,kav,gdA,opI,dZ,fJ,dV,fF,fM,AV.toD,AC.toD,AV.nw,AC.nw,AC.one,a_,aA,aj,au,ay,bf,aV,if_true,if_false,g_,dW,D.one,D.ones,D.sz,D.szs,e_,f_,c_,d_,reduceIte,pkN,aK,aJ,aO,GCell.aG,GCell.aB,GCell.aI,GCell.el,GNb.aG,GNb.aB,GNb.aI,aF,aC,hw1,hT,hbl,hL,hmin,hq,b_,hg])|(first|(with_reducible rfl)|(with_reducible refine dD ?_;kernel_rfl)|exact aC _|exact aF _|exact el_ln _|exact el_tk _ _|exact el_td _ _ _|omega|(simp;done)|(simp;omega))|((with_reducible refine dI ?_);simp[aP,bP,bM,dL,AC.toD,aA,aj,au,ay,a_,aQ,aH,aU,aS,aW,aN,aY,aX,dQ,dR,aK,aJ,aO,GCell.aG,GCell.aB,GCell.aI,GCell.el,GNb.aG,GNb.aB,GNb.aI,aF,aC,hw1,hT,hbl,hL,hmin,hq,b_,hg];first|done|rfl))
     all_goals first
      |(simp only[t_,q_,l_,n_,o_];omega)
      | (refine gY (1,some (0)) ?_ ⟨show 1≤bd.length by omega,hs1,D_ _⟩ (show bd.length - (1)<bd.length - 0 by omega)
         simp only[u_,gI,iM,gq,gJ,AV.fits,AC.fits,FB,fP];simp[AV.fits,AC.fits,gq,htk,GCell.bQ,li,ls, -r_])
  have hb0:kT s= []:=by rw[hbd];exact B_ (by omega)
  have hbl0:bd.length=0:=by omega
  have hv:gu []=true:=rfl;have hvn0:dK Tryz.prog 16 [.agg [.sl []]] (.c false [.raw (.bool true)]):=by
   have h:=lW ⟨[]⟩ trivial;rw[GNb.bQ]at h;exact h
  have hr:dX s=([],true):=by unfold dX;rw[hq,hb0];rfl
  rw[hr]
  repeat' (first|(with_reducible first|refine dG ?_|refine bK ?_|refine cO ?_|refine cZ ?_|refine dH ?_|refine eU ?_|refine bW ?_|refine dF ?_|refine aZ ?_|refine bG ?_|refine cu ?_|refine bD ?_|refine bZ ?_|refine bn ?_|refine bC ?_)|((with_reducible refine bF ?_ ?_);rfl)|((with_reducible refine bH ?_ ?_);rfl)|((with_reducible refine bJ ?_ ?_);rfl)|(with_reducible (refine bI rfl ?_ ?_);all_goals(intro hb;have hb':=hb;(try simp only[pkC]at hb');try(exfalso;omega)))|(refine rg_ ?_;intro K hK)|(refine hq_ ?_;clear hK K)|refine ca_ ?_ ?_|(refine cg_ ?_;first|refine cT_ hvn0 ?_)|((with_reducible refine eF ?_);simp(disch:=first|decide|omega) only[↓pkS,pkW,pkA,undef,h_,i_,j_,dw,fG,lvD,fK,lcD,lvK,lcK,dh,dB,dA,ex,St.put,St.ev,kav,gdA,opI,dZ,fJ,dV,fF,fM,AV.toD,AC.toD,AV.nw,AC.nw,AC.one,a_,aA,aj,au,ay,bf,aV,if_true,if_false,g_,dW,D.one,D.ones,D.sz,D.szs,e_,f_,c_,d_,reduceIte,pkN,aK,aJ,aO,GCell.aG,GCell.aB,GCell.aI,GCell.el,GNb.aG,GNb.aB,GNb.aI,aF,aC,hw1,hT,hbl,hL,hmin,hq,b_,hv,iV,gQ,gZ,jr])|(first|(with_reducible rfl)|(with_reducible refine dD ?_;kernel_rfl)|exact aC _|exact aF _|exact el_ln _|exact el_tk _ _|exact el_td _ _ _|omega|(simp;done)|(simp;omega))|((with_reducible refine dI ?_);simp[aP,bP,bM,dL,AC.toD,aA,aj,au,ay,a_,aQ,aH,aU,aS,aW,aN,aY,aX,dQ,dR,aK,aJ,aO,GCell.aG,GCell.aB,GCell.aI,GCell.el,GNb.aG,GNb.aB,GNb.aI,aF,aC,hw1,hT,hbl,hL,hmin,hq,b_,hv,iV,gQ,gZ,jr];first|done|rfl))
  exact dS ⟨⟨0,_,rfl,rfl,⟨rfl,rfl⟩,trivial⟩,⟨_,rfl,rfl,trivial⟩⟩
 ·simp only at hk hall hk0;simp only[FB,fP];by_cases hlk:k<bd.length
  ·have hpc:=qH bd[k] (hbz _ (p_ hlk));have hg:idx (lines.map ls) (some ((k:Nat):Int))=some (ls bd[k]):=by rw[gK ls lines (by omega)];congr 2;exact(hget k hlk).symm
   rw[GCell.aG]at hpc;have hcc:(fB bd[k]).1=iH bd[k]:=rfl;rw[hcc]at hpc;cases hh:okC bd[k]with
   | false=>
     have hpb:(fB bd[k]).2=false:=hh;rw[hpb]at hpc;have hr:dX s=([],false):=by unfold dX;rw[hq,hbd,oq hlk hh];rfl
     rw[hr]
     repeat' (first|(with_reducible first|refine dG ?_|refine bK ?_|refine cO ?_|refine cZ ?_|refine dH ?_|refine eU ?_|refine bW ?_|refine dF ?_|refine aZ ?_|refine bG ?_|refine cu ?_|refine bD ?_|refine bZ ?_|refine bn ?_|refine bC ?_)|((with_reducible refine bF ?_ ?_);rfl)|((with_reducible refine bH ?_ ?_);rfl)|((with_reducible refine bJ ?_ ?_);rfl)|(with_reducible (refine bI rfl ?_ ?_);all_goals(intro hb;have hb':=hb;(try simp only[pkC]at hb');try(exfalso;omega)))|(refine rg_ ?_;intro K hK)|(refine hq_ ?_;clear hK K)|refine ca_ ?_ ?_|(refine cg_ ?_;first|refine cT_ hpc ?_)|((with_reducible refine eF ?_);simp(disch:=first|decide|omega) only[↓pkS,pkW,pkA,undef,h_,i_,j_,dw,fG,lvD,fK,lcD,lvK,lcK,dh,dB,dA,ex,St.put,St.ev,kav,gdA,opI,dZ,fJ,dV,fF,fM,AV.toD,AC.toD,AV.nw,AC.nw,AC.one,a_,aA,aj,au,ay,bf,aV,if_true,if_false,g_,dW,D.one,D.ones,D.sz,D.szs,e_,f_,c_,d_,reduceIte,pkN,aK,aJ,aO,GCell.aG,GCell.aB,GCell.aI,GCell.el,GNb.aG,GNb.aB,GNb.aI,aF,aC,hw1,hT,hbl,hL,hmin,hq,b_,hg])|(first|(with_reducible rfl)|(with_reducible refine dD ?_;kernel_rfl)|exact aC _|exact aF _|exact el_ln _|exact el_tk _ _|exact el_td _ _ _|omega|(simp;done)|(simp;omega))|((with_reducible refine dI ?_);simp[aP,bP,bM,dL,AC.toD,aA,aj,au,ay,a_,aQ,aH,aU,aS,aW,aN,aY,aX,dQ,dR,aK,aJ,aO,GCell.aG,GCell.aB,GCell.aI,GCell.el,GNb.aG,GNb.aB,GNb.aI,aF,aC,hw1,hT,hbl,hL,hmin,hq,b_,hg];first|done|rfl))
     exact dS ⟨⟨0,_,rfl,rfl,⟨rfl,rfl⟩,trivial⟩,⟨_,rfl,rfl,trivial⟩⟩
   | true=>
     have hpb:(fB bd[k]).2=true:=hh;rw[hpb]at hpc;have hs1:=oh hall ((sH okC hlk).trans hh);have htk:=nS (GCell.toD∘iH) bd hlk
     repeat' (first|(with_reducible first|refine dG ?_|refine bK ?_|refine cO ?_|refine cZ ?_|refine dH ?_|refine eU ?_|refine bW ?_|refine dF ?_|refine aZ ?_|refine bG ?_|refine cu ?_|refine bD ?_|refine bZ ?_|refine bn ?_|refine bC ?_)|((with_reducible refine bF ?_ ?_);rfl)|((with_reducible refine bH ?_ ?_);rfl)|((with_reducible refine bJ ?_ ?_);rfl)|(with_reducible (refine bI rfl ?_ ?_);all_goals(intro hb;have hb':=hb;(try simp only[pkC]at hb');try(exfalso;omega)))|(refine rg_ ?_;intro K hK)|(refine hq_ ?_;clear hK K)|refine ca_ ?_ ?_|(refine cg_ ?_;first|refine cT_ hpc ?_)|((with_reducible refine eF ?_);simp(disch:=first|decide|omega) only[↓pkS,pkW,pkA,undef,h_,i_,j_,dw,fG,lvD,fK,lcD,lvK,lcK,dh,dB,dA,ex,St.put,St.ev,kav,gdA,opI,dZ,fJ,dV,fF,fM,AV.toD,AC.toD,AV.nw,AC.nw,AC.one,a_,aA,aj,au,ay,bf,aV,if_true,if_false,g_,dW,D.one,D.ones,D.sz,D.szs,e_,f_,c_,d_,reduceIte,pkN,aK,aJ,aO,GCell.aG,GCell.aB,GCell.aI,GCell.el,GNb.aG,GNb.aB,GNb.aI,aF,aC,hw1,hT,hbl,hL,hmin,hq,b_,hg])|(first|(with_reducible rfl)|(with_reducible refine dD ?_;kernel_rfl)|exact aC _|exact aF _|exact el_ln _|exact el_tk _ _|exact el_td _ _ _|omega|(simp;done)|(simp;omega))|((with_reducible refine dI ?_);simp[aP,bP,bM,dL,AC.toD,aA,aj,au,ay,a_,aQ,aH,aU,aS,aW,aN,aY,aX,dQ,dR,aK,aJ,aO,GCell.aG,GCell.aB,GCell.aI,GCell.el,GNb.aG,GNb.aB,GNb.aI,aF,aC,hw1,hT,hbl,hL,hmin,hq,b_,hg];first|done|rfl))
     all_goals first
      |(simp only[t_,q_,l_,n_,o_];omega)
      | (refine gY (k+1,some (v+1)) ?_ ⟨show k+1≤bd.length by omega,hs1,D_ _⟩ (show bd.length - (k+1)<bd.length - k by omega)
         simp only[u_,gI,iM,gq,gJ,AV.fits,AC.fits,FB,fP];simp[AV.fits,AC.fits,gq,htk,GCell.bQ,li,ls, -r_])
  obtain rfl:k=bd.length:=by omega
  have hfin:(bd.map (GCell.toD∘iH)).take bd.length=(bd.map iH).map GCell.toD:=by rw[E_ (by rw[t_];exact v_ _),u_]
  have hall:FN okC bd=true:=hall;have hvn:=lW ⟨bd.map iH⟩ (yK fun d hd=>by obtain⟨x,hx,rfl⟩:=y_.1 hd;exact hcw x hx);simp only at hvn;rw[GNb.bQ,← hfin]at hvn;cases hv:gu (bd.map iH)with
  | false=>
    rw[hv]at hvn;have hr:dX s=([],false):=by unfold dX;rw[hq,hbd,hall,hv];rfl
    rw[hr]
    repeat' (first|(with_reducible first|refine dG ?_|refine bK ?_|refine cO ?_|refine cZ ?_|refine dH ?_|refine eU ?_|refine bW ?_|refine dF ?_|refine aZ ?_|refine bG ?_|refine cu ?_|refine bD ?_|refine bZ ?_|refine bn ?_|refine bC ?_)|((with_reducible refine bF ?_ ?_);rfl)|((with_reducible refine bH ?_ ?_);rfl)|((with_reducible refine bJ ?_ ?_);rfl)|(with_reducible (refine bI rfl ?_ ?_);all_goals(intro hb;have hb':=hb;(try simp only[pkC]at hb');try(exfalso;omega)))|(refine rg_ ?_;intro K hK)|(refine hq_ ?_;clear hK K)|refine ca_ ?_ ?_|((with_reducible refine jY ?_);refine dn hvn trivial ?_ ?_)|((with_reducible refine eF ?_);simp(disch:=first|decide|omega) only[↓pkS,pkW,pkA,undef,h_,i_,j_,dw,fG,lvD,fK,lcD,lvK,lcK,dh,dB,dA,ex,St.put,St.ev,kav,gdA,opI,dZ,fJ,dV,fF,fM,AV.toD,AC.toD,AV.nw,AC.nw,AC.one,a_,aA,aj,au,ay,bf,aV,if_true,if_false,g_,dW,D.one,D.ones,D.sz,D.szs,e_,f_,c_,d_,reduceIte,pkN,aK,aJ,aO,GCell.aG,GCell.aB,GCell.aI,GCell.el,GNb.aG,GNb.aB,GNb.aI,aF,aC,hw1,hT,hbl,hL,hmin,hq,b_,hv,iV,gQ,gZ,jr])|(first|(with_reducible rfl)|(with_reducible refine dD ?_;kernel_rfl)|exact aC _|exact aF _|exact el_ln _|exact el_tk _ _|exact el_td _ _ _|omega|(simp;done)|(simp;omega))|((with_reducible refine dI ?_);simp[aP,bP,bM,dL,AC.toD,aA,aj,au,ay,a_,aQ,aH,aU,aS,aW,aN,aY,aX,dQ,dR,aK,aJ,aO,GCell.aG,GCell.aB,GCell.aI,GCell.el,GNb.aG,GNb.aB,GNb.aI,aF,aC,hw1,hT,hbl,hL,hmin,hq,b_,hv,iV,gQ,gZ,jr];first|done|rfl))
    exact dS ⟨⟨0,_,rfl,rfl,⟨rfl,rfl⟩,trivial⟩,⟨_,rfl,rfl,trivial⟩⟩
  | true=>
    rw[hv]at hvn;have hr:dX s=(bd.map iH,true):=by unfold dX;rw[hq,hbd,hall,hv];rfl
    rw[hr]
    repeat' (first|(with_reducible first|refine dG ?_|refine bK ?_|refine cO ?_|refine cZ ?_|refine dH ?_|refine eU ?_|refine bW ?_|refine dF ?_|refine aZ ?_|refine bG ?_|refine cu ?_|refine bD ?_|refine bZ ?_|refine bn ?_|refine bC ?_)|((with_reducible refine bF ?_ ?_);rfl)|((with_reducible refine bH ?_ ?_);rfl)|((with_reducible refine bJ ?_ ?_);rfl)|(with_reducible (refine bI rfl ?_ ?_);all_goals(intro hb;have hb':=hb;(try simp only[pkC]at hb');try(exfalso;omega)))|(refine rg_ ?_;intro K hK)|(refine hq_ ?_;clear hK K)|refine ca_ ?_ ?_|((with_reducible refine jY ?_);refine dn hvn trivial ?_ ?_)|((with_reducible refine eF ?_);simp(disch:=first|decide|omega) only[↓pkS,pkW,pkA,undef,h_,i_,j_,dw,fG,lvD,fK,lcD,lvK,lcK,dh,dB,dA,ex,St.put,St.ev,kav,gdA,opI,dZ,fJ,dV,fF,fM,AV.toD,AC.toD,AV.nw,AC.nw,AC.one,a_,aA,aj,au,ay,bf,aV,if_true,if_false,g_,dW,D.one,D.ones,D.sz,D.szs,e_,f_,c_,d_,reduceIte,pkN,aK,aJ,aO,GCell.aG,GCell.aB,GCell.aI,GCell.el,GNb.aG,GNb.aB,GNb.aI,aF,aC,hw1,hT,hbl,hL,hmin,hq,b_,hv,iV,gQ,gZ,jr])|(first|(with_reducible rfl)|(with_reducible refine dD ?_;kernel_rfl)|exact aC _|exact aF _|exact el_ln _|exact el_tk _ _|exact el_td _ _ _|omega|(simp;done)|(simp;omega))|((with_reducible refine dI ?_);simp[aP,bP,bM,dL,AC.toD,aA,aj,au,ay,a_,aQ,aH,aU,aS,aW,aN,aY,aX,dQ,dR,aK,aJ,aO,GCell.aG,GCell.aB,GCell.aI,GCell.el,GNb.aG,GNb.aB,GNb.aI,aF,aC,hw1,hT,hbl,hL,hmin,hq,b_,hv,iV,gQ,gZ,jr];first|done|rfl))
    exact dS ⟨⟨0,_,rfl,rfl,⟨_,rfl,rfl,by rw[hfin],Or.inl rfl⟩,trivial⟩,⟨_,rfl,rfl,trivial⟩⟩
def uM :IC:=(zd_ [zz_ 2 (.alloc [(.slice none 0 0)]),zj_ 3 false] (zd_ [zw_ 10 0,zz_ 11 (.call 36 [(.t 10),(.k (.int .u8 10))]),zw_ 4 11] (zd_ [zz_ 12 (.bld [(.slice none 0 0)] []),zz_ 5 (.alloc [(.slice none 0 0)]),⟨none,none,.store 1 (.t 5) (.t 12)⟩] (.seq (zd_ [zw_ 13 4,zw_ 14 4,zf_ 15 false 14,zm_ 16 .sub 15 1,zz_ 17 (.lsl 1 (.t 13) none (some (.t 16))),zf_ 18 false 17,zk_ 19 0] (.block 0 (.loop (zd_ [zl_ 20 .lss 19 18] (.seq (.cond (.t 20) .skip (.exit 0)) (.seq (.block 1 (zd_ [ze_ 21 1 17 19,zs_ 22 1 21,zw_ 7 22] (zd_ [zw_ 24 7,zq_ 25 21 24,zw_ 23 25,zz_ 26 (.ext 0 (.t 23)),zz_ 27 (.ext 1 (.t 23)),zz_ 8 (.alloc [(.int .i64 0),(.int .i64 0),(.int .i64 0),(.string ⟨#[]⟩),(.string ⟨#[]⟩),(.int .i64 0)]),⟨none,none,.store 6 (.t 8) (.t 26)⟩,zw_ 9 27] (.seq (zd_ [zw_ 28 9,zz_ 29 (.not (.t 28))] (.cond (.t 29) (zd_ [zz_ 30 (.bld [(.slice none 0 0)] []),⟨none,none,.store 1 (.t 2) (.t 30)⟩,zj_ 3 false] .ret) .skip)) (.reg false [zt_ 31 0 5,zs_ 32 1 31,zr_ 33 6 8,zz_ 34 (.brow false 45 6 1 false [(.t 33)]),zz_ 35 (.app 45 6 (.t 32) (.t 34)),zt_ 36 0 5,⟨none,none,.store 1 (.t 36) (.t 35)⟩]))))) (.reg false [zm_ 37 .add 19 1,zw_ 19 37]))))))) (.seq (zd_ [zw_ 38 4,zw_ 39 4,zf_ 40 false 39,zm_ 41 .sub 40 1,ze_ 42 1 38 41,zs_ 43 1 42,zz_ 44 (.bin .neq (.t 43) (.k (.string ⟨#[]⟩))),zw_ 45 44,zx_ 46 45 (.load 1 true (.t 5)),zx_ 47 45 (.call 50 [(.t 46)]),zx_ 48 45 (.not (.t 47)),zg_ 49 45 true 48] (.cond (.t 49) (zd_ [zz_ 50 (.bld [(.slice none 0 0)] []),⟨none,none,.store 1 (.t 2) (.t 50)⟩,zj_ 3 false] .ret) .skip)) (zd_ [zr_ 51 1 5,⟨none,none,.store 1 (.t 2) (.t 51)⟩,zj_ 3 true] .ret))))))
theorem uK :bg Tryz.prog (Tryz.f14.body.getD .skip)=some uM:=by kernel_rfl
theorem yR(s:ByteArray)(hs:s.size≤1048576)(hN:(dX s).1= []):dK Tryz.prog 14 [ls s] (.tup [(true,[.raw (.slice none 0 0)]),(false,[.raw (.bool (dX s).2)])]):=by
 refine nY (fn:=Tryz.f14) (r:= .cell 2 36) (q:= .tmp 3) (hc:=uK) (h:= ?_);unfold uM;refine zb_ ?_;change AWP _ _ _ (st0 52 _);simp only[undef,stS,st0,stN,D.av,D.avN,aW,aN,aY,aX,aO,iL,aK,aJ,K_,O_,J_,w_,G_,l_,n_,e_,f_];obtain⟨lines,hlines⟩:∃l,nlL s=l:=⟨_,rfl⟩
 have hsp:dK Tryz.prog 36 [ls s,.leaf (.int .u8 10)] (.c false [.sl true (lines.map ls)]):=by
  rw[← hlines];exact qG s 10 hs
 have hne:0<lines.length:=by rw[← hlines];exact z_.2 (wO _ _)
 have hlz:lines.length≤1048577:=by have:=zo nlB s (by decide);rw[← hlines];unfold nlL;omega
 obtain⟨bd,hbd⟩:∃b,kT s=b:=⟨_,rfl⟩
 have hbe:lines.take (lines.length - 1)=bd:=by rw[← hbd,← hlines];rfl
 have hbn:bd.length=lines.length - 1:=by rw[← hbe,o_];omega
 have hbz:∀x∈bd,x.size≤1048576:=fun x hx=>by
  rw[← hbe]at hx;have h1:=H_ hx;rw[← hlines]at h1;have:=rU (sep:=nlB) (by decide) h1;omega
 have hget:∀k (h:k<bd.length),bd[k]=lines[k]'(by omega):=fun k h=>by
  have:bd[k]? =lines[k]? :=by rw[← hbe,C_ (by omega)]
  rw[k_ h,k_ (by omega)]at this;exact I_ this
 have hw1:IntKind.i64.wrap ((lines.length:Int) - 1)=((bd.length:Nat):Int):=by rw[iY (by omega) (by omega)];omega
 have hT:(lines.map ls).take bd.length=bd.map ls:=by rw[← L_,hbn,hbe]
 have hbl:lJ none (some ((bd.length:Nat):Int)) lines.length=some (0,bd.length):=xk (by omega);have hmin:min bd.length lines.length=bd.length:=by omega
 have hL:idx (lines.map ls) (some ((bd.length:Nat):Int))=some (ls (qx s)):=by
  rw[gK ls lines (by omega)];unfold qx;rw[hlines,← hbn,m_,k_ (by omega)];rfl
 have hcw:∀x∈bd.map iH,x.toD.wf:=fun x hx=>by
  obtain⟨y,hy,rfl⟩:=y_.1 hx;exact kH (hbz y hy)
 obtain⟨bq,hq⟩:∃b,((qx s).toList==(⟨#[]⟩:ByteArray).toList)=b:=⟨_,rfl⟩
 repeat' (first|(with_reducible first|refine dG ?_|refine bK ?_|refine cO ?_|refine cZ ?_|refine dH ?_|refine eU ?_|refine bW ?_|refine dF ?_|refine aZ ?_|refine bG ?_|refine cu ?_|refine bD ?_|refine bZ ?_|refine bn ?_|refine bC ?_)|((with_reducible refine bF ?_ ?_);rfl)|((with_reducible refine bH ?_ ?_);rfl)|((with_reducible refine bJ ?_ ?_);rfl)|(with_reducible (refine bI rfl ?_ ?_);all_goals(intro hb;have hb':=hb;(try simp only[pkC]at hb');try(exfalso;omega)))|(refine rg_ ?_;intro K hK)|((with_reducible refine dN ?_ ?_);rfl)|((with_reducible refine dP ?_ ?_);(rfl;try simp only[St.put,undef,pkA,e_,f_,c_,d_]))|(with_reducible (refine eH rfl ?_ ?_);all_goals(intro hb;have hb':=hb;(try simp only[pkC]at hb');try(exfalso;omega)))|(refine hq_ ?_;clear hK K)|refine ca_ ?_ ?_|(refine cg_ ?_;first|refine cT_ hsp ?_)|((with_reducible refine eF ?_);simp(disch:=first|decide|omega) only[↓pkS,pkW,pkA,undef,h_,i_,j_,dw,fG,lvD,fK,lcD,lvK,lcK,dh,dB,dA,ex,St.put,St.ev,kav,gdA,opI,dZ,fJ,dV,fF,fM,AV.toD,AC.toD,AV.nw,AC.nw,AC.one,a_,aA,aj,au,ay,bf,aV,if_true,if_false,g_,dW,D.one,D.ones,D.sz,D.szs,e_,f_,c_,d_,reduceIte,pkN,aK,aJ,aO,GCell.aG,GCell.aB,GCell.aI,GCell.el,GNb.aG,GNb.aB,GNb.aI,aF,aC,hw1,hT,hbl,hL,hmin,hq,b_])|(first|(with_reducible rfl)|(with_reducible refine dD ?_;kernel_rfl)|exact aC _|exact aF _|exact el_ln _|exact el_tk _ _|exact el_td _ _ _|omega|(simp;done)|(simp;omega))|((with_reducible refine dI ?_);simp[aP,bP,bM,dL,AC.toD,aA,aj,au,ay,a_,aQ,aH,aU,aS,aW,aN,aY,aX,dQ,dR,aK,aJ,aO,GCell.aG,GCell.aB,GCell.aI,GCell.el,GNb.aG,GNb.aB,GNb.aI,aF,aC,hw1,hT,hbl,hL,hmin,hq,b_];first|done|rfl))
 refine iU (X:=Nat×Option Nat) (fun q=> [.d,.d,.k,.d,.k,.k,.d,.d,.d,.d,.d,.d,.d,.d,.d,.d,.d,.k,.k,.v (.c false [.raw (.int .i64 (q.1:Nat))])]) (fun q=>match q.2 with|none=> []|some w=> [⟨((bd.map (GCell.toD∘iH)).take q.1),45,6,w,true⟩]) (fun q bs=> [[.raw (.slice none 0 0)],[match q.2 with|none=> .raw (.slice none 0 0)|some w=> .own 0 w]]) (fun q=>q.1≤bd.length∧allN (pAt okC bd) q.1=true∧(match q.2 with|none=>q.1=0|some _=>0<q.1)) (fun q=>bd.length - q.1) (0,none) ⟨x_ _,rfl,rfl⟩ ?_ ?_
 ·simp[gI,iM,gq,gJ,AV.fits,AC.fits,FB,fP]
 rintro⟨k,_|v⟩ ⟨hk,hall,hk0⟩
 ·simp only at hk hall hk0;subst hk0;simp only[FB,fP];by_cases hlk:0<bd.length
  ·have hpc:=iw bd[0] (hbz _ (p_ hlk));have hg:idx (bd.map ls) (some ((0:Nat):Int))=some (ls bd[0]):=gK ls bd hlk;rw[GCell.aG]at hpc;have hcc:(fB bd[0]).1=iH bd[0]:=rfl;rw[hcc]at hpc;cases hh:okC bd[0]with
   | false=>
     have hpb:(fB bd[0]).2=false:=hh;rw[hpb]at hpc;have hr:dX s=([],false):=by unfold dX;rw[hq,hbd,oq hlk hh];cases bq<;>rfl
     rw[hr]
     repeat' (first|(with_reducible first|refine dG ?_|refine bK ?_|refine cO ?_|refine cZ ?_|refine dH ?_|refine eU ?_|refine bW ?_|refine dF ?_|refine aZ ?_|refine bG ?_|refine cu ?_|refine bD ?_|refine bZ ?_|refine bn ?_|refine bC ?_)|((with_reducible refine bF ?_ ?_);rfl)|((with_reducible refine bH ?_ ?_);rfl)|((with_reducible refine bJ ?_ ?_);rfl)|(with_reducible (refine bI rfl ?_ ?_);all_goals(intro hb;have hb':=hb;(try simp only[pkC]at hb');try(exfalso;omega)))|(refine rg_ ?_;intro K hK)|((with_reducible refine dN ?_ ?_);rfl)|((with_reducible refine dP ?_ ?_);(rfl;try simp only[St.put,undef,pkA,e_,f_,c_,d_]))|(with_reducible (refine eH rfl ?_ ?_);all_goals(intro hb;have hb':=hb;(try simp only[pkC]at hb');try(exfalso;omega)))|(refine hq_ ?_;clear hK K)|refine ca_ ?_ ?_|(refine cg_ ?_;first|refine cT_ hpc ?_)|((with_reducible refine eF ?_);simp(disch:=first|decide|omega) only[↓pkS,pkW,pkA,undef,h_,i_,j_,dw,fG,lvD,fK,lcD,lvK,lcK,dh,dB,dA,ex,St.put,St.ev,kav,gdA,opI,dZ,fJ,dV,fF,fM,AV.toD,AC.toD,AV.nw,AC.nw,AC.one,a_,aA,aj,au,ay,bf,aV,if_true,if_false,g_,dW,D.one,D.ones,D.sz,D.szs,e_,f_,c_,d_,reduceIte,pkN,aK,aJ,aO,GCell.aG,GCell.aB,GCell.aI,GCell.el,GNb.aG,GNb.aB,GNb.aI,aF,aC,hw1,hT,hbl,hL,hmin,hq,b_,hg])|(first|(with_reducible rfl)|(with_reducible refine dD ?_;kernel_rfl)|exact aC _|exact aF _|exact el_ln _|exact el_tk _ _|exact el_td _ _ _|omega|(simp;done)|(simp;omega))|((with_reducible refine dI ?_);simp[aP,bP,bM,dL,AC.toD,aA,aj,au,ay,a_,aQ,aH,aU,aS,aW,aN,aY,aX,dQ,dR,aK,aJ,aO,GCell.aG,GCell.aB,GCell.aI,GCell.el,GNb.aG,GNb.aB,GNb.aI,aF,aC,hw1,hT,hbl,hL,hmin,hq,b_,hg];first|done|rfl))
     exact dS ⟨⟨0,_,rfl,rfl,rfl,trivial⟩,⟨_,rfl,rfl,trivial⟩⟩
   | true=>
     have hpb:(fB bd[0]).2=true:=hh;rw[hpb]at hpc;have hs1:=oh hall ((sH okC hlk).trans hh);have htk:=nS (GCell.toD∘iH) bd hlk
     repeat' (first|(with_reducible first|refine dG ?_|refine bK ?_|refine cO ?_|refine cZ ?_|refine dH ?_|refine eU ?_|refine bW ?_|refine dF ?_|refine aZ ?_|refine bG ?_|refine cu ?_|refine bD ?_|refine bZ ?_|refine bn ?_|refine bC ?_)|((with_reducible refine bF ?_ ?_);rfl)|((with_reducible refine bH ?_ ?_);rfl)|((with_reducible refine bJ ?_ ?_);rfl)|(with_reducible (refine bI rfl ?_ ?_);all_goals(intro hb;have hb':=hb;(try simp only[pkC]at hb');try(exfalso;omega)))|(refine rg_ ?_;intro K hK)|((with_reducible refine dN ?_ ?_);rfl)|((with_reducible refine dP ?_ ?_);(rfl;try simp only[St.put,undef,pkA,e_,f_,c_,d_]))|(with_reducible (refine eH rfl ?_ ?_);all_goals(intro hb;have hb':=hb;(try simp only[pkC]at hb');try(exfalso;omega)))|(refine hq_ ?_;clear hK K)|refine ca_ ?_ ?_|(refine cg_ ?_;first|refine cT_ hpc ?_)|((with_reducible refine eF ?_);simp(disch:=first|decide|omega) only[↓pkS,pkW,pkA,undef,h_,i_,j_,dw,fG,lvD,fK,lcD,lvK,lcK,dh,dB,dA,ex,St.put,St.ev,kav,gdA,opI,dZ,fJ,dV,fF,fM,AV.toD,AC.toD,AV.nw,AC.nw,AC.one,a_,aA,aj,au,ay,bf,aV,if_true,if_false,g_,dW,D.one,D.ones,D.sz,D.szs,e_,f_,c_,d_,reduceIte,pkN,aK,aJ,aO,GCell.aG,GCell.aB,GCell.aI,GCell.el,GNb.aG,GNb.aB,GNb.aI,aF,aC,hw1,hT,hbl,hL,hmin,hq,b_,hg])|(first|(with_reducible rfl)|(with_reducible refine dD ?_;kernel_rfl)|exact aC _|exact aF _|exact el_ln _|exact el_tk _ _|exact el_td _ _ _|omega|(simp;done)|(simp;omega))|((with_reducible refine dI ?_);simp[aP,bP,bM,dL,AC.toD,aA,aj,au,ay,a_,aQ,aH,aU,aS,aW,aN,aY,aX,dQ,dR,aK,aJ,aO,GCell.aG,GCell.aB,GCell.aI,GCell.el,GNb.aG,GNb.aB,GNb.aI,aF,aC,hw1,hT,hbl,hL,hmin,hq,b_,hg];first|done|rfl))
     all_goals first
      |(simp only[t_,q_,l_,n_,o_];omega)
      | (refine gY (1,some (0)) ?_ ⟨show 1≤bd.length by omega,hs1,D_ _⟩ (show bd.length - (1)<bd.length - 0 by omega)
         simp only[u_,gI,iM,gq,gJ,AV.fits,AC.fits,FB,fP];simp[AV.fits,AC.fits,gq,htk,GCell.bQ,li,ls, -r_])
  have hb0:kT s= []:=by rw[hbd];exact B_ (by omega)
  have hbl0:bd.length=0:=by omega
  have hv:gu []=true:=rfl;have hvn0:dK Tryz.prog 50 [.agg [.sl []]] (.c false [.raw (.bool true)]):=by
   have h:=kE ⟨[]⟩ trivial;rw[GNb.bQ]at h;exact h
  cases bq with
  | false=>
    have hr:dX s=([],false):=by unfold dX;rw[hq];rfl
    rw[hr]
    repeat' (first|(with_reducible first|refine dG ?_|refine bK ?_|refine cO ?_|refine cZ ?_|refine dH ?_|refine eU ?_|refine bW ?_|refine dF ?_|refine aZ ?_|refine bG ?_|refine cu ?_|refine bD ?_|refine bZ ?_|refine bn ?_|refine bC ?_)|((with_reducible refine bF ?_ ?_);rfl)|((with_reducible refine bH ?_ ?_);rfl)|((with_reducible refine bJ ?_ ?_);rfl)|(with_reducible (refine bI rfl ?_ ?_);all_goals(intro hb;have hb':=hb;(try simp only[pkC]at hb');try(exfalso;omega)))|(refine rg_ ?_;intro K hK)|((with_reducible refine dN ?_ ?_);rfl)|((with_reducible refine dP ?_ ?_);(rfl;try simp only[St.put,undef,pkA,e_,f_,c_,d_]))|(with_reducible (refine eH rfl ?_ ?_);all_goals(intro hb;have hb':=hb;(try simp only[pkC]at hb');try(exfalso;omega)))|(refine hq_ ?_;clear hK K)|refine ca_ ?_ ?_|(refine cg_ ?_;first|refine cT_ hvn0 ?_)|((with_reducible refine eF ?_);simp(disch:=first|decide|omega) only[↓pkS,pkW,pkA,undef,h_,i_,j_,dw,fG,lvD,fK,lcD,lvK,lcK,dh,dB,dA,ex,St.put,St.ev,kav,gdA,opI,dZ,fJ,dV,fF,fM,AV.toD,AC.toD,AV.nw,AC.nw,AC.one,a_,aA,aj,au,ay,bf,aV,if_true,if_false,g_,dW,D.one,D.ones,D.sz,D.szs,e_,f_,c_,d_,reduceIte,pkN,aK,aJ,aO,GCell.aG,GCell.aB,GCell.aI,GCell.el,GNb.aG,GNb.aB,GNb.aI,aF,aC,hw1,hT,hbl,hL,hmin,hq,b_,hv,iV,gQ,gZ,jr])|(first|(with_reducible rfl)|(with_reducible refine dD ?_;kernel_rfl)|exact aC _|exact aF _|exact el_ln _|exact el_tk _ _|exact el_td _ _ _|omega|(simp;done)|(simp;omega))|((with_reducible refine dI ?_);simp[aP,bP,bM,dL,AC.toD,aA,aj,au,ay,a_,aQ,aH,aU,aS,aW,aN,aY,aX,dQ,dR,aK,aJ,aO,GCell.aG,GCell.aB,GCell.aI,GCell.el,GNb.aG,GNb.aB,GNb.aI,aF,aC,hw1,hT,hbl,hL,hmin,hq,b_,hv,iV,gQ,gZ,jr];first|done|rfl))
    exact dS ⟨⟨0,_,rfl,rfl,rfl,trivial⟩,⟨_,rfl,rfl,trivial⟩⟩
  | true=>
    have hr:dX s=([],true):=by unfold dX;rw[hq,hb0];rfl
    rw[hr]
    repeat' (first|(with_reducible first|refine dG ?_|refine bK ?_|refine cO ?_|refine cZ ?_|refine dH ?_|refine eU ?_|refine bW ?_|refine dF ?_|refine aZ ?_|refine bG ?_|refine cu ?_|refine bD ?_|refine bZ ?_|refine bn ?_|refine bC ?_)|((with_reducible refine bF ?_ ?_);rfl)|((with_reducible refine bH ?_ ?_);rfl)|((with_reducible refine bJ ?_ ?_);rfl)|(with_reducible (refine bI rfl ?_ ?_);all_goals(intro hb;have hb':=hb;(try simp only[pkC]at hb');try(exfalso;omega)))|(refine rg_ ?_;intro K hK)|((with_reducible refine dN ?_ ?_);rfl)|((with_reducible refine dP ?_ ?_);(rfl;try simp only[St.put,undef,pkA,e_,f_,c_,d_]))|(with_reducible (refine eH rfl ?_ ?_);all_goals(intro hb;have hb':=hb;(try simp only[pkC]at hb');try(exfalso;omega)))|(refine hq_ ?_;clear hK K)|refine ca_ ?_ ?_|(refine cg_ ?_;first|refine cT_ hvn0 ?_)|((with_reducible refine eF ?_);simp(disch:=first|decide|omega) only[↓pkS,pkW,pkA,undef,h_,i_,j_,dw,fG,lvD,fK,lcD,lvK,lcK,dh,dB,dA,ex,St.put,St.ev,kav,gdA,opI,dZ,fJ,dV,fF,fM,AV.toD,AC.toD,AV.nw,AC.nw,AC.one,a_,aA,aj,au,ay,bf,aV,if_true,if_false,g_,dW,D.one,D.ones,D.sz,D.szs,e_,f_,c_,d_,reduceIte,pkN,aK,aJ,aO,GCell.aG,GCell.aB,GCell.aI,GCell.el,GNb.aG,GNb.aB,GNb.aI,aF,aC,hw1,hT,hbl,hL,hmin,hq,b_,hv,iV,gQ,gZ,jr])|(first|(with_reducible rfl)|(with_reducible refine dD ?_;kernel_rfl)|exact aC _|exact aF _|exact el_ln _|exact el_tk _ _|exact el_td _ _ _|omega|(simp;done)|(simp;omega))|((with_reducible refine dI ?_);simp[aP,bP,bM,dL,AC.toD,aA,aj,au,ay,a_,aQ,aH,aU,aS,aW,aN,aY,aX,dQ,dR,aK,aJ,aO,GCell.aG,GCell.aB,GCell.aI,GCell.el,GNb.aG,GNb.aB,GNb.aI,aF,aC,hw1,hT,hbl,hL,hmin,hq,b_,hv,iV,gQ,gZ,jr];first|done|rfl))
    exact dS ⟨⟨0,_,rfl,rfl,rfl,trivial⟩,⟨_,rfl,rfl,trivial⟩⟩
 ·simp only at hk hall hk0;simp only[FB,fP];by_cases hlk:k<bd.length
  ·have hpc:=iw bd[k] (hbz _ (p_ hlk));have hg:idx (bd.map ls) (some ((k:Nat):Int))=some (ls bd[k]):=gK ls bd hlk;rw[GCell.aG]at hpc;have hcc:(fB bd[k]).1=iH bd[k]:=rfl;rw[hcc]at hpc;cases hh:okC bd[k]with
   | false=>
     have hpb:(fB bd[k]).2=false:=hh;rw[hpb]at hpc;have hr:dX s=([],false):=by unfold dX;rw[hq,hbd,oq hlk hh];cases bq<;>rfl
     rw[hr]
     repeat' (first|(with_reducible first|refine dG ?_|refine bK ?_|refine cO ?_|refine cZ ?_|refine dH ?_|refine eU ?_|refine bW ?_|refine dF ?_|refine aZ ?_|refine bG ?_|refine cu ?_|refine bD ?_|refine bZ ?_|refine bn ?_|refine bC ?_)|((with_reducible refine bF ?_ ?_);rfl)|((with_reducible refine bH ?_ ?_);rfl)|((with_reducible refine bJ ?_ ?_);rfl)|(with_reducible (refine bI rfl ?_ ?_);all_goals(intro hb;have hb':=hb;(try simp only[pkC]at hb');try(exfalso;omega)))|(refine rg_ ?_;intro K hK)|((with_reducible refine dN ?_ ?_);rfl)|((with_reducible refine dP ?_ ?_);(rfl;try simp only[St.put,undef,pkA,e_,f_,c_,d_]))|(with_reducible (refine eH rfl ?_ ?_);all_goals(intro hb;have hb':=hb;(try simp only[pkC]at hb');try(exfalso;omega)))|(refine hq_ ?_;clear hK K)|refine ca_ ?_ ?_|(refine cg_ ?_;first|refine cT_ hpc ?_)|((with_reducible refine eF ?_);simp(disch:=first|decide|omega) only[↓pkS,pkW,pkA,undef,h_,i_,j_,dw,fG,lvD,fK,lcD,lvK,lcK,dh,dB,dA,ex,St.put,St.ev,kav,gdA,opI,dZ,fJ,dV,fF,fM,AV.toD,AC.toD,AV.nw,AC.nw,AC.one,a_,aA,aj,au,ay,bf,aV,if_true,if_false,g_,dW,D.one,D.ones,D.sz,D.szs,e_,f_,c_,d_,reduceIte,pkN,aK,aJ,aO,GCell.aG,GCell.aB,GCell.aI,GCell.el,GNb.aG,GNb.aB,GNb.aI,aF,aC,hw1,hT,hbl,hL,hmin,hq,b_,hg])|(first|(with_reducible rfl)|(with_reducible refine dD ?_;kernel_rfl)|exact aC _|exact aF _|exact el_ln _|exact el_tk _ _|exact el_td _ _ _|omega|(simp;done)|(simp;omega))|((with_reducible refine dI ?_);simp[aP,bP,bM,dL,AC.toD,aA,aj,au,ay,a_,aQ,aH,aU,aS,aW,aN,aY,aX,dQ,dR,aK,aJ,aO,GCell.aG,GCell.aB,GCell.aI,GCell.el,GNb.aG,GNb.aB,GNb.aI,aF,aC,hw1,hT,hbl,hL,hmin,hq,b_,hg];first|done|rfl))
     exact dS ⟨⟨0,_,rfl,rfl,rfl,trivial⟩,⟨_,rfl,rfl,trivial⟩⟩
   | true=>
     have hpb:(fB bd[k]).2=true:=hh;rw[hpb]at hpc;have hs1:=oh hall ((sH okC hlk).trans hh);have htk:=nS (GCell.toD∘iH) bd hlk
     repeat' (first|(with_reducible first|refine dG ?_|refine bK ?_|refine cO ?_|refine cZ ?_|refine dH ?_|refine eU ?_|refine bW ?_|refine dF ?_|refine aZ ?_|refine bG ?_|refine cu ?_|refine bD ?_|refine bZ ?_|refine bn ?_|refine bC ?_)|((with_reducible refine bF ?_ ?_);rfl)|((with_reducible refine bH ?_ ?_);rfl)|((with_reducible refine bJ ?_ ?_);rfl)|(with_reducible (refine bI rfl ?_ ?_);all_goals(intro hb;have hb':=hb;(try simp only[pkC]at hb');try(exfalso;omega)))|(refine rg_ ?_;intro K hK)|((with_reducible refine dN ?_ ?_);rfl)|((with_reducible refine dP ?_ ?_);(rfl;try simp only[St.put,undef,pkA,e_,f_,c_,d_]))|(with_reducible (refine eH rfl ?_ ?_);all_goals(intro hb;have hb':=hb;(try simp only[pkC]at hb');try(exfalso;omega)))|(refine hq_ ?_;clear hK K)|refine ca_ ?_ ?_|(refine cg_ ?_;first|refine cT_ hpc ?_)|((with_reducible refine eF ?_);simp(disch:=first|decide|omega) only[↓pkS,pkW,pkA,undef,h_,i_,j_,dw,fG,lvD,fK,lcD,lvK,lcK,dh,dB,dA,ex,St.put,St.ev,kav,gdA,opI,dZ,fJ,dV,fF,fM,AV.toD,AC.toD,AV.nw,AC.nw,AC.one,a_,aA,aj,au,ay,bf,aV,if_true,if_false,g_,dW,D.one,D.ones,D.sz,D.szs,e_,f_,c_,d_,reduceIte,pkN,aK,aJ,aO,GCell.aG,GCell.aB,GCell.aI,GCell.el,GNb.aG,GNb.aB,GNb.aI,aF,aC,hw1,hT,hbl,hL,hmin,hq,b_,hg])|(first|(with_reducible rfl)|(with_reducible refine dD ?_;kernel_rfl)|exact aC _|exact aF _|exact el_ln _|exact el_tk _ _|exact el_td _ _ _|omega|(simp;done)|(simp;omega))|((with_reducible refine dI ?_);simp[aP,bP,bM,dL,AC.toD,aA,aj,au,ay,a_,aQ,aH,aU,aS,aW,aN,aY,aX,dQ,dR,aK,aJ,aO,GCell.aG,GCell.aB,GCell.aI,GCell.el,GNb.aG,GNb.aB,GNb.aI,aF,aC,hw1,hT,hbl,hL,hmin,hq,b_,hg];first|done|rfl))
     all_goals first
      |(simp only[t_,q_,l_,n_,o_];omega)
      | (refine gY (k+1,some (v+1)) ?_ ⟨show k+1≤bd.length by omega,hs1,D_ _⟩ (show bd.length - (k+1)<bd.length - k by omega)
         simp only[u_,gI,iM,gq,gJ,AV.fits,AC.fits,FB,fP];simp[AV.fits,AC.fits,gq,htk,GCell.bQ,li,ls, -r_])
  obtain rfl:k=bd.length:=by omega
  have hfin:(bd.map (GCell.toD∘iH)).take bd.length=(bd.map iH).map GCell.toD:=by rw[E_ (by rw[t_];exact v_ _),u_]
  have hall:FN okC bd=true:=hall;have hvn:=kE ⟨bd.map iH⟩ (yK fun d hd=>by obtain⟨x,hx,rfl⟩:=y_.1 hd;exact hcw x hx);simp only at hvn;rw[GNb.bQ,← hfin]at hvn;cases bq with
  | false=>
    have hr:dX s=([],false):=by unfold dX;rw[hq];rfl
    rw[hr]
    repeat' (first|(with_reducible first|refine dG ?_|refine bK ?_|refine cO ?_|refine cZ ?_|refine dH ?_|refine eU ?_|refine bW ?_|refine dF ?_|refine aZ ?_|refine bG ?_|refine cu ?_|refine bD ?_|refine bZ ?_|refine bn ?_|refine bC ?_)|((with_reducible refine bF ?_ ?_);rfl)|((with_reducible refine bH ?_ ?_);rfl)|((with_reducible refine bJ ?_ ?_);rfl)|(with_reducible (refine bI rfl ?_ ?_);all_goals(intro hb;have hb':=hb;(try simp only[pkC]at hb');try(exfalso;omega)))|(refine rg_ ?_;intro K hK)|((with_reducible refine dN ?_ ?_);rfl)|((with_reducible refine dP ?_ ?_);(rfl;try simp only[St.put,undef,pkA,e_,f_,c_,d_]))|(with_reducible (refine eH rfl ?_ ?_);all_goals(intro hb;have hb':=hb;(try simp only[pkC]at hb');try(exfalso;omega)))|(refine hq_ ?_;clear hK K)|refine ca_ ?_ ?_|((with_reducible refine jY ?_);refine dn hvn trivial ?_ ?_)|((with_reducible refine eF ?_);simp(disch:=first|decide|omega) only[↓pkS,pkW,pkA,undef,h_,i_,j_,dw,fG,lvD,fK,lcD,lvK,lcK,dh,dB,dA,ex,St.put,St.ev,kav,gdA,opI,dZ,fJ,dV,fF,fM,AV.toD,AC.toD,AV.nw,AC.nw,AC.one,a_,aA,aj,au,ay,bf,aV,if_true,if_false,g_,dW,D.one,D.ones,D.sz,D.szs,e_,f_,c_,d_,reduceIte,pkN,aK,aJ,aO,GCell.aG,GCell.aB,GCell.aI,GCell.el,GNb.aG,GNb.aB,GNb.aI,aF,aC,hw1,hT,hbl,hL,hmin,hq,b_,iV,gQ,gZ,jr])|(first|(with_reducible rfl)|(with_reducible refine dD ?_;kernel_rfl)|exact aC _|exact aF _|exact el_ln _|exact el_tk _ _|exact el_td _ _ _|omega|(simp;done)|(simp;omega))|((with_reducible refine dI ?_);simp[aP,bP,bM,dL,AC.toD,aA,aj,au,ay,a_,aQ,aH,aU,aS,aW,aN,aY,aX,dQ,dR,aK,aJ,aO,GCell.aG,GCell.aB,GCell.aI,GCell.el,GNb.aG,GNb.aB,GNb.aI,aF,aC,hw1,hT,hbl,hL,hmin,hq,b_,iV,gQ,gZ,jr];first|done|rfl))
    all_goals exact dS ⟨⟨0,_,rfl,rfl,rfl,trivial⟩,⟨_,rfl,rfl,trivial⟩⟩
  |true=>
  cases hv:gu (bd.map iH)with
  | false=>
    rw[hv]at hvn;have hr:dX s=([],false):=by unfold dX;rw[hq,hbd,hall,hv];rfl
    rw[hr]
    repeat' (first|(with_reducible first|refine dG ?_|refine bK ?_|refine cO ?_|refine cZ ?_|refine dH ?_|refine eU ?_|refine bW ?_|refine dF ?_|refine aZ ?_|refine bG ?_|refine cu ?_|refine bD ?_|refine bZ ?_|refine bn ?_|refine bC ?_)|((with_reducible refine bF ?_ ?_);rfl)|((with_reducible refine bH ?_ ?_);rfl)|((with_reducible refine bJ ?_ ?_);rfl)|(with_reducible (refine bI rfl ?_ ?_);all_goals(intro hb;have hb':=hb;(try simp only[pkC]at hb');try(exfalso;omega)))|(refine rg_ ?_;intro K hK)|((with_reducible refine dN ?_ ?_);rfl)|((with_reducible refine dP ?_ ?_);(rfl;try simp only[St.put,undef,pkA,e_,f_,c_,d_]))|(with_reducible (refine eH rfl ?_ ?_);all_goals(intro hb;have hb':=hb;(try simp only[pkC]at hb');try(exfalso;omega)))|(refine hq_ ?_;clear hK K)|refine ca_ ?_ ?_|((with_reducible refine jY ?_);refine dn hvn trivial ?_ ?_)|((with_reducible refine eF ?_);simp(disch:=first|decide|omega) only[↓pkS,pkW,pkA,undef,h_,i_,j_,dw,fG,lvD,fK,lcD,lvK,lcK,dh,dB,dA,ex,St.put,St.ev,kav,gdA,opI,dZ,fJ,dV,fF,fM,AV.toD,AC.toD,AV.nw,AC.nw,AC.one,a_,aA,aj,au,ay,bf,aV,if_true,if_false,g_,dW,D.one,D.ones,D.sz,D.szs,e_,f_,c_,d_,reduceIte,pkN,aK,aJ,aO,GCell.aG,GCell.aB,GCell.aI,GCell.el,GNb.aG,GNb.aB,GNb.aI,aF,aC,hw1,hT,hbl,hL,hmin,hq,b_,hv,iV,gQ,gZ,jr])|(first|(with_reducible rfl)|(with_reducible refine dD ?_;kernel_rfl)|exact aC _|exact aF _|exact el_ln _|exact el_tk _ _|exact el_td _ _ _|omega|(simp;done)|(simp;omega))|((with_reducible refine dI ?_);simp[aP,bP,bM,dL,AC.toD,aA,aj,au,ay,a_,aQ,aH,aU,aS,aW,aN,aY,aX,dQ,dR,aK,aJ,aO,GCell.aG,GCell.aB,GCell.aI,GCell.el,GNb.aG,GNb.aB,GNb.aI,aF,aC,hw1,hT,hbl,hL,hmin,hq,b_,hv,iV,gQ,gZ,jr];first|done|rfl))
    exact dS ⟨⟨0,_,rfl,rfl,rfl,trivial⟩,⟨_,rfl,rfl,trivial⟩⟩
  | true=>
    rw[hv]at hvn;have hr:dX s=(bd.map iH,true):=by unfold dX;rw[hq,hbd,hall,hv];rfl
    rw[hr]at hN;have hN2:=congrArg List.length hN;simp at hN2;exact absurd hN2 (by intro e;rw[e]at hk0;simp at hk0)
theorem yQ(s:ByteArray)(hs:s.size≤1048576)(hO:(dX s).1≠[]):tH Tryz.prog 14 [ls s] (.tup [(true,[.own 0 0]),(false,[.raw (.bool true)])]) [⟨(dX s).1.map GCell.toD,45,6,0,true⟩]:=by
 refine LU (fn:=Tryz.f14) (r:= .cell 2 36) (q:= .tmp 3) (hc:=uK) (h:= ?_);unfold uM;refine zb_ ?_;change AWP _ _ _ (st0 52 _);simp only[undef,stS,st0,stN,D.av,D.avN,aW,aN,aY,aX,aO,iL,aK,aJ,K_,O_,J_,w_,G_,l_,n_,e_,f_];obtain⟨lines,hlines⟩:∃l,nlL s=l:=⟨_,rfl⟩
 have hsp:dK Tryz.prog 36 [ls s,.leaf (.int .u8 10)] (.c false [.sl true (lines.map ls)]):=by
  rw[← hlines];exact qG s 10 hs
 have hne:0<lines.length:=by rw[← hlines];exact z_.2 (wO _ _)
 have hlz:lines.length≤1048577:=by have:=zo nlB s (by decide);rw[← hlines];unfold nlL;omega
 obtain⟨bd,hbd⟩:∃b,kT s=b:=⟨_,rfl⟩
 have hbe:lines.take (lines.length - 1)=bd:=by rw[← hbd,← hlines];rfl
 have hbn:bd.length=lines.length - 1:=by rw[← hbe,o_];omega
 have hbz:∀x∈bd,x.size≤1048576:=fun x hx=>by
  rw[← hbe]at hx;have h1:=H_ hx;rw[← hlines]at h1;have:=rU (sep:=nlB) (by decide) h1;omega
 have hget:∀k (h:k<bd.length),bd[k]=lines[k]'(by omega):=fun k h=>by
  have:bd[k]? =lines[k]? :=by rw[← hbe,C_ (by omega)]
  rw[k_ h,k_ (by omega)]at this;exact I_ this
 have hw1:IntKind.i64.wrap ((lines.length:Int) - 1)=((bd.length:Nat):Int):=by rw[iY (by omega) (by omega)];omega
 have hT:(lines.map ls).take bd.length=bd.map ls:=by rw[← L_,hbn,hbe]
 have hbl:lJ none (some ((bd.length:Nat):Int)) lines.length=some (0,bd.length):=xk (by omega);have hmin:min bd.length lines.length=bd.length:=by omega
 have hL:idx (lines.map ls) (some ((bd.length:Nat):Int))=some (ls (qx s)):=by
  rw[gK ls lines (by omega)];unfold qx;rw[hlines,← hbn,m_,k_ (by omega)];rfl
 have hcw:∀x∈bd.map iH,x.toD.wf:=fun x hx=>by
  obtain⟨y,hy,rfl⟩:=y_.1 hx;exact kH (hbz y hy)
 obtain⟨bq,hq⟩:∃b,((qx s).toList==(⟨#[]⟩:ByteArray).toList)=b:=⟨_,rfl⟩
 repeat' (first|(with_reducible first|refine dG ?_|refine bK ?_|refine cO ?_|refine cZ ?_|refine dH ?_|refine eU ?_|refine bW ?_|refine dF ?_|refine aZ ?_|refine bG ?_|refine cu ?_|refine bD ?_|refine bZ ?_|refine bn ?_|refine bC ?_)|((with_reducible refine bF ?_ ?_);rfl)|((with_reducible refine bH ?_ ?_);rfl)|((with_reducible refine bJ ?_ ?_);rfl)|(with_reducible (refine bI rfl ?_ ?_);all_goals(intro hb;have hb':=hb;(try simp only[pkC]at hb');try(exfalso;omega)))|(refine rg_ ?_;intro K hK)|((with_reducible refine dN ?_ ?_);rfl)|((with_reducible refine dP ?_ ?_);(rfl;try simp only[St.put,undef,pkA,e_,f_,c_,d_]))|(with_reducible (refine eH rfl ?_ ?_);all_goals(intro hb;have hb':=hb;(try simp only[pkC]at hb');try(exfalso;omega)))|(refine hq_ ?_;clear hK K)|refine ca_ ?_ ?_|(refine cg_ ?_;first|refine cT_ hsp ?_)|((with_reducible refine eF ?_);simp(disch:=first|decide|omega) only[↓pkS,pkW,pkA,undef,h_,i_,j_,dw,fG,lvD,fK,lcD,lvK,lcK,dh,dB,dA,ex,St.put,St.ev,kav,gdA,opI,dZ,fJ,dV,fF,fM,AV.toD,AC.toD,AV.nw,AC.nw,AC.one,a_,aA,aj,au,ay,bf,aV,if_true,if_false,g_,dW,D.one,D.ones,D.sz,D.szs,e_,f_,c_,d_,reduceIte,pkN,aK,aJ,aO,GCell.aG,GCell.aB,GCell.aI,GCell.el,GNb.aG,GNb.aB,GNb.aI,aF,aC,hw1,hT,hbl,hL,hmin,hq,b_])|(first|(with_reducible rfl)|(with_reducible refine dD ?_;kernel_rfl)|exact aC _|exact aF _|exact el_ln _|exact el_tk _ _|exact el_td _ _ _|omega|(simp;done)|(simp;omega))|((with_reducible refine dI ?_);simp[aP,bP,bM,dL,AC.toD,aA,aj,au,ay,a_,aQ,aH,aU,aS,aW,aN,aY,aX,dQ,dR,aK,aJ,aO,GCell.aG,GCell.aB,GCell.aI,GCell.el,GNb.aG,GNb.aB,GNb.aI,aF,aC,hw1,hT,hbl,hL,hmin,hq,b_];first|done|rfl))
 refine iU (X:=Nat×Option Nat) (fun q=> [.d,.d,.k,.d,.k,.k,.d,.d,.d,.d,.d,.d,.d,.d,.d,.d,.d,.k,.k,.v (.c false [.raw (.int .i64 (q.1:Nat))])]) (fun q=>match q.2 with|none=> []|some w=> [⟨((bd.map (GCell.toD∘iH)).take q.1),45,6,w,true⟩]) (fun q bs=> [[.raw (.slice none 0 0)],[match q.2 with|none=> .raw (.slice none 0 0)|some w=> .own 0 w]]) (fun q=>q.1≤bd.length∧allN (pAt okC bd) q.1=true∧(match q.2 with|none=>q.1=0|some _=>0<q.1)) (fun q=>bd.length - q.1) (0,none) ⟨x_ _,rfl,rfl⟩ ?_ ?_
 ·simp[gI,iM,gq,gJ,AV.fits,AC.fits,FB,fP]
 rintro⟨k,_|v⟩ ⟨hk,hall,hk0⟩
 ·simp only at hk hall hk0;subst hk0;simp only[FB,fP];by_cases hlk:0<bd.length
  ·have hpc:=iw bd[0] (hbz _ (p_ hlk));have hg:idx (bd.map ls) (some ((0:Nat):Int))=some (ls bd[0]):=gK ls bd hlk;rw[GCell.aG]at hpc;have hcc:(fB bd[0]).1=iH bd[0]:=rfl;rw[hcc]at hpc;cases hh:okC bd[0]with
   | false=>
     have hpb:(fB bd[0]).2=false:=hh;rw[hpb]at hpc;have hr:dX s=([],false):=by unfold dX;rw[hq,hbd,oq hlk hh];cases bq<;>rfl
     exact absurd (by rw[hr]) hO
   | true=>
     have hpb:(fB bd[0]).2=true:=hh;rw[hpb]at hpc;have hs1:=oh hall ((sH okC hlk).trans hh);have htk:=nS (GCell.toD∘iH) bd hlk
     repeat' (first|(with_reducible first|refine dG ?_|refine bK ?_|refine cO ?_|refine cZ ?_|refine dH ?_|refine eU ?_|refine bW ?_|refine dF ?_|refine aZ ?_|refine bG ?_|refine cu ?_|refine bD ?_|refine bZ ?_|refine bn ?_|refine bC ?_)|((with_reducible refine bF ?_ ?_);rfl)|((with_reducible refine bH ?_ ?_);rfl)|((with_reducible refine bJ ?_ ?_);rfl)|(with_reducible (refine bI rfl ?_ ?_);all_goals(intro hb;have hb':=hb;(try simp only[pkC]at hb');try(exfalso;omega)))|(refine rg_ ?_;intro K hK)|((with_reducible refine dN ?_ ?_);rfl)|((with_reducible refine dP ?_ ?_);(rfl;try simp only[St.put,undef,pkA,e_,f_,c_,d_]))|(with_reducible (refine eH rfl ?_ ?_);all_goals(intro hb;have hb':=hb;(try simp only[pkC]at hb');try(exfalso;omega)))|(refine hq_ ?_;clear hK K)|refine ca_ ?_ ?_|(refine cg_ ?_;first|refine cT_ hpc ?_)|((with_reducible refine eF ?_);simp(disch:=first|decide|omega) only[↓pkS,pkW,pkA,undef,h_,i_,j_,dw,fG,lvD,fK,lcD,lvK,lcK,dh,dB,dA,ex,St.put,St.ev,kav,gdA,opI,dZ,fJ,dV,fF,fM,AV.toD,AC.toD,AV.nw,AC.nw,AC.one,a_,aA,aj,au,ay,bf,aV,if_true,if_false,g_,dW,D.one,D.ones,D.sz,D.szs,e_,f_,c_,d_,reduceIte,pkN,aK,aJ,aO,GCell.aG,GCell.aB,GCell.aI,GCell.el,GNb.aG,GNb.aB,GNb.aI,aF,aC,hw1,hT,hbl,hL,hmin,hq,b_,hg])|(first|(with_reducible rfl)|(with_reducible refine dD ?_;kernel_rfl)|exact aC _|exact aF _|exact el_ln _|exact el_tk _ _|exact el_td _ _ _|omega|(simp;done)|(simp;omega))|((with_reducible refine dI ?_);simp[aP,bP,bM,dL,AC.toD,aA,aj,au,ay,a_,aQ,aH,aU,aS,aW,aN,aY,aX,dQ,dR,aK,aJ,aO,GCell.aG,GCell.aB,GCell.aI,GCell.el,GNb.aG,GNb.aB,GNb.aI,aF,aC,hw1,hT,hbl,hL,hmin,hq,b_,hg];first|done|rfl))
     all_goals first
      |(simp only[t_,q_,l_,n_,o_];omega)
      | (refine gY (1,some (0)) ?_ ⟨show 1≤bd.length by omega,hs1,D_ _⟩ (show bd.length - (1)<bd.length - 0 by omega)
         simp only[u_,gI,iM,gq,gJ,AV.fits,AC.fits,FB,fP];simp[AV.fits,AC.fits,gq,htk,GCell.bQ,li,ls, -r_])
  have hb0:kT s= []:=by rw[hbd];exact B_ (by omega)
  have hbl0:bd.length=0:=by omega
  have hv:gu []=true:=rfl;have hvn0:dK Tryz.prog 50 [.agg [.sl []]] (.c false [.raw (.bool true)]):=by
   have h:=kE ⟨[]⟩ trivial;rw[GNb.bQ]at h;exact h
  cases bq with
  | false=>
    have hr:dX s=([],false):=by unfold dX;rw[hq];rfl
    exact absurd (by rw[hr]) hO
  | true=>
    have hr:dX s=([],true):=by unfold dX;rw[hq,hb0];rfl
    exact absurd (by rw[hr]) hO
 ·simp only at hk hall hk0;simp only[FB,fP];by_cases hlk:k<bd.length
  ·have hpc:=iw bd[k] (hbz _ (p_ hlk));have hg:idx (bd.map ls) (some ((k:Nat):Int))=some (ls bd[k]):=gK ls bd hlk;rw[GCell.aG]at hpc;have hcc:(fB bd[k]).1=iH bd[k]:=rfl;rw[hcc]at hpc;cases hh:okC bd[k]with
   | false=>
     have hpb:(fB bd[k]).2=false:=hh;rw[hpb]at hpc;have hr:dX s=([],false):=by unfold dX;rw[hq,hbd,oq hlk hh];cases bq<;>rfl
     exact absurd (by rw[hr]) hO
   | true=>
     have hpb:(fB bd[k]).2=true:=hh;rw[hpb]at hpc;have hs1:=oh hall ((sH okC hlk).trans hh);have htk:=nS (GCell.toD∘iH) bd hlk
     repeat' (first|(with_reducible first|refine dG ?_|refine bK ?_|refine cO ?_|refine cZ ?_|refine dH ?_|refine eU ?_|refine bW ?_|refine dF ?_|refine aZ ?_|refine bG ?_|refine cu ?_|refine bD ?_|refine bZ ?_|refine bn ?_|refine bC ?_)|((with_reducible refine bF ?_ ?_);rfl)|((with_reducible refine bH ?_ ?_);rfl)|((with_reducible refine bJ ?_ ?_);rfl)|(with_reducible (refine bI rfl ?_ ?_);all_goals(intro hb;have hb':=hb;(try simp only[pkC]at hb');try(exfalso;omega)))|(refine rg_ ?_;intro K hK)|((with_reducible refine dN ?_ ?_);rfl)|((with_reducible refine dP ?_ ?_);(rfl;try simp only[St.put,undef,pkA,e_,f_,c_,d_]))|(with_reducible (refine eH rfl ?_ ?_);all_goals(intro hb;have hb':=hb;(try simp only[pkC]at hb');try(exfalso;omega)))|(refine hq_ ?_;clear hK K)|refine ca_ ?_ ?_|(refine cg_ ?_;first|refine cT_ hpc ?_)|((with_reducible refine eF ?_);simp(disch:=first|decide|omega) only[↓pkS,pkW,pkA,undef,h_,i_,j_,dw,fG,lvD,fK,lcD,lvK,lcK,dh,dB,dA,ex,St.put,St.ev,kav,gdA,opI,dZ,fJ,dV,fF,fM,AV.toD,AC.toD,AV.nw,AC.nw,AC.one,a_,aA,aj,au,ay,bf,aV,if_true,if_false,g_,dW,D.one,D.ones,D.sz,D.szs,e_,f_,c_,d_,reduceIte,pkN,aK,aJ,aO,GCell.aG,GCell.aB,GCell.aI,GCell.el,GNb.aG,GNb.aB,GNb.aI,aF,aC,hw1,hT,hbl,hL,hmin,hq,b_,hg])|(first|(with_reducible rfl)|(with_reducible refine dD ?_;kernel_rfl)|exact aC _|exact aF _|exact el_ln _|exact el_tk _ _|exact el_td _ _ _|omega|(simp;done)|(simp;omega))|((with_reducible refine dI ?_);simp[aP,bP,bM,dL,AC.toD,aA,aj,au,ay,a_,aQ,aH,aU,aS,aW,aN,aY,aX,dQ,dR,aK,aJ,aO,GCell.aG,GCell.aB,GCell.aI,GCell.el,GNb.aG,GNb.aB,GNb.aI,aF,aC,hw1,hT,hbl,hL,hmin,hq,b_,hg];first|done|rfl))
     all_goals first
      |(simp only[t_,q_,l_,n_,o_];omega)
      | (refine gY (k+1,some (v+1)) ?_ ⟨show k+1≤bd.length by omega,hs1,D_ _⟩ (show bd.length - (k+1)<bd.length - k by omega)
         simp only[u_,gI,iM,gq,gJ,AV.fits,AC.fits,FB,fP];simp[AV.fits,AC.fits,gq,htk,GCell.bQ,li,ls, -r_])
  obtain rfl:k=bd.length:=by omega
  have hfin:(bd.map (GCell.toD∘iH)).take bd.length=(bd.map iH).map GCell.toD:=by rw[E_ (by rw[t_];exact v_ _),u_]
  have hall:FN okC bd=true:=hall;have hvn:=kE ⟨bd.map iH⟩ (yK fun d hd=>by obtain⟨x,hx,rfl⟩:=y_.1 hd;exact hcw x hx);simp only at hvn;rw[GNb.bQ,← hfin]at hvn;cases bq with
  | false=>
    have hr:dX s=([],false):=by unfold dX;rw[hq];rfl
    exact absurd (by rw[hr]) hO
  |true=>
  cases hv:gu (bd.map iH)with
  | false=>
    rw[hv]at hvn;have hr:dX s=([],false):=by unfold dX;rw[hq,hbd,hall,hv];rfl
    exact absurd (by rw[hr]) hO
  | true=>
    rw[hv]at hvn;have hr:dX s=(bd.map iH,true):=by unfold dX;rw[hq,hbd,hall,hv];rfl
    rw[hr]
    repeat' (first|(with_reducible first|refine dG ?_|refine bK ?_|refine cO ?_|refine cZ ?_|refine dH ?_|refine eU ?_|refine bW ?_|refine dF ?_|refine aZ ?_|refine bG ?_|refine cu ?_|refine bD ?_|refine bZ ?_|refine bn ?_|refine bC ?_)|((with_reducible refine bF ?_ ?_);rfl)|((with_reducible refine bH ?_ ?_);rfl)|((with_reducible refine bJ ?_ ?_);rfl)|(with_reducible (refine bI rfl ?_ ?_);all_goals(intro hb;have hb':=hb;(try simp only[pkC]at hb');try(exfalso;omega)))|(refine rg_ ?_;intro K hK)|((with_reducible refine dN ?_ ?_);rfl)|((with_reducible refine dP ?_ ?_);(rfl;try simp only[St.put,undef,pkA,e_,f_,c_,d_]))|(with_reducible (refine eH rfl ?_ ?_);all_goals(intro hb;have hb':=hb;(try simp only[pkC]at hb');try(exfalso;omega)))|(refine hq_ ?_;clear hK K)|refine ca_ ?_ ?_|((with_reducible refine jY ?_);refine dn hvn trivial ?_ ?_)|((with_reducible refine eF ?_);simp(disch:=first|decide|omega) only[↓pkS,pkW,pkA,undef,h_,i_,j_,dw,fG,lvD,fK,lcD,lvK,lcK,dh,dB,dA,ex,St.put,St.ev,kav,gdA,opI,dZ,fJ,dV,fF,fM,AV.toD,AC.toD,AV.nw,AC.nw,AC.one,a_,aA,aj,au,ay,bf,aV,if_true,if_false,g_,dW,D.one,D.ones,D.sz,D.szs,e_,f_,c_,d_,reduceIte,pkN,aK,aJ,aO,GCell.aG,GCell.aB,GCell.aI,GCell.el,GNb.aG,GNb.aB,GNb.aI,aF,aC,hw1,hT,hbl,hL,hmin,hq,b_,hv,iV,gQ,gZ,jr])|(first|(with_reducible rfl)|(with_reducible refine dD ?_;kernel_rfl)|exact aC _|exact aF _|exact el_ln _|exact el_tk _ _|exact el_td _ _ _|omega|(simp;done)|(simp;omega))|((with_reducible refine dI ?_);simp[aP,bP,bM,dL,AC.toD,aA,aj,au,ay,a_,aQ,aH,aU,aS,aW,aN,aY,aX,dQ,dR,aK,aJ,aO,GCell.aG,GCell.aB,GCell.aI,GCell.el,GNb.aG,GNb.aB,GNb.aI,aF,aC,hw1,hT,hbl,hL,hmin,hq,b_,hv,iV,gQ,gZ,jr];first|done|rfl))
    exact dS ⟨[0],by simp,⟨⟨_,rfl,by rw[hfin],Or.inl rfl⟩,trivial⟩,⟨0,_,rfl,rfl,⟨rfl,rfl,_,rfl,rfl⟩,trivial⟩,⟨_,rfl,rfl,trivial⟩⟩
theorem MW{s:ByteArray}(h:(dX s).1≠[]):(dX s).2=true:=by
 unfold dX at h⊢;split at h
 ·next h1=>
  rw[if_pos h1];split at h
  ·next h2=>
   rw[if_pos h2];split at h
   ·next h3=>rw[if_pos h3]
   ·exact absurd rfl h
  ·exact absurd rfl h
 ·exact absurd rfl h
end
section
open Value renaming oneCell'→a_
open List renaming drop_zero→b_,flatMap_cons→h_,flatMap_nil→i_,append_nil→j_,getElem?_eq_getElem→k_,length_cons→l_,getD_eq_getElem?_getD→m_,length_nil→n_,length_take→o_,getElem_mem→p_,length_append→q_,take_append_getElem→r_,length_map→t_,map_map→u_,cons_append→w_,mem_map→y_,length_pos_iff→z_,foldr_cons→A_,eq_nil_of_length_eq_zero→B_,getElem?_take_of_lt→C_,take_of_length_le→E_,take_succ_eq_append_getElem→F_,nil_append→G_,mem_of_mem_take→H_,replicate→J_,map_cons→K_,map_take→L_,mem_cons→M_,map_congr_left→N_,map_nil→O_,all_eq_true→P_,take_length→R_,take_left→U_,foldr_nil→V_,map_id→X_
open Nat renaming reduceLeDiff→c_,reduceEqDiff→d_,reduceAdd→e_,reduceSub→f_,le_refl→v_,zero_le→x_,succ_pos→D_,le_trans→W_
open Bool renaming false_eq_true→g_,and_eq_true→s_
open Option.some renaming inj→I_
theorem UQ(s:ByteArray)(i:Nat):(s.extract 0 i).data.toList=s.data.toList.take i:=by
 simp[ByteArray.data_extract,Array.toList_extract,List.extract_eq_take_drop]
theorem KZ(s:ByteArray){j:Nat}(h:j<s.size):s[j]=s.data.toList[j]'(by simpa using h):=by
 simp[ByteArray.getElem_eq_getElem_data]
theorem Vr(c:UInt8)(a r:ByteArray)(h:∀x∈a.data.toList,x≠c):cut ⟨#[c]⟩ (a++(⟨#[c]⟩++r))=a::cut ⟨#[c]⟩ r:=by
 have hl:(a++((⟨#[c]⟩:ByteArray)++r)).data.toList=a.data.toList++c::r.data.toList:=by simp
 have hsz:(a++((⟨#[c]⟩:ByteArray)++r)).size=a.size+1+r.size:=by
  rw[← lZ,hl,q_,l_,lZ,lZ];omega
 generalize hs:a++((⟨#[c]⟩:ByteArray)++r)=s at hl hsz⊢;have hget:∀(j:Nat) (hj:j<s.size),s[j]=(a.data.toList++c::r.data.toList)[j]'(by rw[← hl];simpa using hj):=fun j hj=>by
  rw[KZ s hj];simp only[hl]
 have hal:a.data.toList.length=a.size:=lZ a;have h1:=BH s ⟨#[c]⟩ (a:=0) (i:=a.size) (v_ 1) (x_ _) (show a.size+1≤s.size by omega) (fun j _ hj=>by
  rw[show(⟨#[c]⟩:ByteArray).data.toList= [c] from rfl,Ud s c (by omega),hget j (by omega),List.getElem_append_left (by omega)];exact beq_eq_false_iff_ne.2 fun e=>h _ (p_ _) e.symm) (by
  rw[show(⟨#[c]⟩:ByteArray).data.toList= [c] from rfl,Ud s c (by omega),hget a.size (by omega),List.getElem_append_right (by omega)];simp[hal])
 rw[oK]at h1;rw[h1];congr 1
 ·apply ByteArray.ext;apply Array.ext';rw[UQ,hl,← hal,U_]
 ·congr 1;apply ByteArray.ext;apply Array.ext';rw[x9,hl,show a.size+(⟨#[c]⟩:ByteArray).size=a.data.toList.length+1 by rw[hal];rfl,← List.drop_drop];simp
theorem Vq(c:UInt8)(a:ByteArray)(h:∀x∈a.data.toList,x≠c):cut ⟨#[c]⟩ a= [a]:=by
 have h1:=uT a ⟨#[c]⟩ (a:=0) (fun j _ hj=>by
  rw[show(⟨#[c]⟩:ByteArray).data.toList= [c] from rfl];by_cases hlt:j<a.size
  ·rw[Ud a c hlt,KZ a hlt];exact beq_eq_false_iff_ne.2 fun e=>h _ (p_ _) e.symm
  ·exact JF a c (by omega)) (x_ _)
 rwa[oK]at h1
theorem zl(c:UInt8):∀(l:List ByteArray) (r:ByteArray),(∀a∈l,∀x∈a.data.toList,x≠c)→cut ⟨#[c]⟩ (l.foldr (fun a t=>a++((⟨#[c]⟩:ByteArray)++t)) r)=l++cut ⟨#[c]⟩ r
 | [],r,_=>rfl
 | a::l,r,h=>by
   rw[A_,Vr c a _ (h a (by simp)),zl c l r fun b hb=>h b (by simp[hb])];rfl
theorem wH(c:UInt8):∀(l:List ByteArray) (r:ByteArray),jA (l++ [r]) ⟨#[c]⟩=l.foldr (fun a t=>a++((⟨#[c]⟩:ByteArray)++t)) r
 | [],r=>vJ r _
 | [a],r=>by
   rw[A_,V_,w_,G_,sN,vJ]
 | a::b::l,r=>by
   rw[w_,w_,sN,← w_,wH c (b::l) r,A_ (l:=b::l)]
theorem Vh{n:Int}{x:UInt8}(h:x∈(dM n).data.toList):x=45∨pR x=true:=by
 rw[pY]at h;by_cases hn:n<0
 ·rw[xI hn]at h;rcases M_.1 h with h|h
  ·exact Or.inl h
  ·exact Or.inr (yj _ x h)
 ·rw[xH (by omega)]at h;exact Or.inr (yj _ x h)
theorem uS{n:Int}{c:UInt8}(h1:c≠45)(h2:pR c=false):∀x∈(dM n).data.toList,x≠c:=fun x hx e=>by
 subst e;rcases Vh hx with e|e
 ·exact h1 e
 ·rw[h2]at e;cases e
theorem vX{s:ByteArray}(h:jO s=true):0<s.size∧∀x∈s.data.toList,mP x=true∨mQ x=true:=by
 unfold jO l9 at h;simp only[s_,decide_eq_true_eq,P_,List.mem_range]at h;refine⟨h.1.1,fun x hx=> ?_⟩;obtain⟨j,hj,rfl⟩:=List.getElem_of_mem hx;have h2:=h.1.2 j (by simpa using hj);rw[m_,k_ hj,Option.getD_some]at h2;unfold lQ at h2;simp only[Bool.or_eq_true,s_]at h2;exact h2.imp id (·.2)
theorem N8{s:ByteArray}(h:jO s=true){c:UInt8}(h1:mP c=false)(h2:mQ c=false):∀x∈s.data.toList,x≠c:=fun x hx e=>by
 subst e;rcases(vX h).2 x hx with e|e
 ·rw[h1]at e;cases e
 ·rw[h2]at e;cases e
theorem Ls{s:ByteArray}(h:s.toList.isEmpty=true):s=⟨#[]⟩:=by
 have h1:s.toList= []:=List.isEmpty_iff.1 h;rw[ByteArray.toList_eq]at h1;apply ByteArray.ext;apply Array.ext';simpa using h1
structure GoodC (x:GCell):Prop where
 id0:1≤x.id
 id1:x.id≤999
 v0:1≤x.ver
 v1:x.ver≤999
 k0:1≤x.kind
 k1:x.kind≤4
 n0:0≤x.n
 n1:x.n≤100
 nm:x.name=⟨#[]⟩∨jO x.name=true
 cd:gB x.code=true
theorem Pq{x:GCell}(h:fQ x=true):GoodC x:=by
 unfold fQ inR at h;simp only[s_,decide_eq_true_eq]at h;obtain⟨⟨⟨⟨h1,h2⟩,h3,h4⟩,h5⟩,h6⟩:=h;have hk:(1≤x.kind∧x.kind≤4)∧(0≤x.n∧x.n≤100)∧(x.name=⟨#[]⟩∨jO x.name=true):=by
  rcases wG x (d:=jO x.name && !ng x.name.toList) (f:=decide (0≤x.n) && decide (x.n≤100))with⟨g1,g2,g3⟩|⟨g1,g2,g3⟩|⟨g1,g2,g3⟩|⟨g1,g2,g3,g4⟩|⟨g1,g2,g3,g4,g5⟩|⟨g1,g2,g3,g4,g5⟩
  ·rw[g3]at h6;have e1:x.kind=1:=by simpa using g1
   have e2:x.n=0:=by simpa using h6
   exact⟨by omega,by omega,Or.inl (Ls g2)⟩
  ·rw[g3]at h6;cases h6
  ·rw[g3]at h6;simp only[s_,beq_iff_eq]at h6 g2;exact⟨by omega,by omega,Or.inr h6.1.1⟩
  ·rw[g4]at h6;simp only[s_,beq_iff_eq]at h6 g3;exact⟨by omega,by omega,Or.inr h6.1.1⟩
  ·rw[g5]at h6;simp only[s_,decide_eq_true_eq,beq_iff_eq]at h6 g4;exact⟨by omega,by omega,Or.inr h6.1.1.1⟩
  ·rw[g5]at h6;cases h6
 exact⟨h1,h2,h3,h4,hk.1.1,hk.1.2,hk.2.1.1,hk.2.1.2,hk.2.2,h5⟩
theorem TA{s:ByteArray}(h:gB s=true):∀x∈s.data.toList,x≠10:=fun x hx e=>by
 unfold gB at h;simp only[s_,P_]at h;have:=h.1 x hx;rw[e]at this
 revert this
 decide
theorem JJ{x:GCell}(h:GoodC x){c:UInt8}(h1:mP c=false)(h2:mQ c=false)(h3:c≠45):∀y∈(jX x.name).data.toList,y≠c:=fun y hy=>by
 unfold jX at hy;rcases h.nm with e|e
 ·rw[e]at hy;have hy':y∈[(45:UInt8)]:=by simpa[ByteArray.toList_eq]using hy
  rw[List.mem_singleton]at hy';exact fun e'=>h3 (e'▸hy')
 ·have hne:(x.name.toList==(⟨#[]⟩:ByteArray).toList)=false:=by
   rw[beq_eq_false_iff_ne];intro e2;have:=(vX e).1;rw[ByteArray.toList_eq,ByteArray.toList_eq]at e2;rw[← lZ,e2]at this;simp at this
  rw[hne]at hy;exact N8 e h1 h2 y hy
theorem Rh{x:GCell}(h:GoodC x):qL (jX x.name)=x.name:=by
 rcases h.nm with e|e
 ·rw[e];simp[jX,qL,ByteArray.toList_eq]
 ·have hne:(x.name.toList==(⟨#[]⟩:ByteArray).toList)=false:=by
   rw[beq_eq_false_iff_ne];intro e2;have:=(vX e).1;rw[ByteArray.toList_eq,ByteArray.toList_eq]at e2;rw[← lZ,e2]at this;simp at this
  have hnb:jX x.name=x.name:=by unfold jX;rw[hne];rfl
  rw[hnb];unfold qL;have hnd:(x.name.toList==(⟨#[45]⟩:ByteArray).toList)=false:=by
   rw[beq_eq_false_iff_ne];intro e2;rw[ByteArray.toList_eq,ByteArray.toList_eq]at e2;have h9:=N8 e (c:=45) (by decide) (by decide) 45 (by rw[e2];simp);exact h9 rfl
  rw[hnd];rfl
theorem xA{n:Int}(h0:0≤n)(h1:n≤999999):qV (dM n)=n:=by
 unfold qV;rw[ug (by omega) (by omega) h0 h1 rfl]
theorem wP(x:GCell):jA (l7 x) spB= [dM x.id,dM x.ver,dM x.kind,dM x.n,jX x.name].foldr (fun a t=>a++(spB++t)) x.code:=by
 show _= [dM x.id,dM x.ver,dM x.kind,dM x.n,jX x.name].foldr (fun a t=>a++((⟨#[32]⟩:ByteArray)++t)) x.code;rw[← wH 32];rfl
theorem CS{x:GCell}(h:fQ x=true):fB (eu x)=(x,true):=by
 have g:=Pq h;have hf:eu x=jA (l7 x) spB:=by unfold eu;rw[if_pos h]
 have hc:cut spB (eu x)= [dM x.id,dM x.ver,dM x.kind,dM x.n,jX x.name]++cut spB x.code:=by
  rw[hf,wP];refine zl 32 _ _ fun a ha=> ?_
  simp only[M_,List.not_mem_nil,or_false]at ha;rcases ha with rfl|rfl|rfl|rfl|rfl
  ·exact uS (by decide) (by decide)
  ·exact uS (by decide) (by decide)
  ·exact uS (by decide) (by decide)
  ·exact uS (by decide) (by decide)
  ·exact JJ g (by decide) (by decide) (by decide)
 have hlen:¬(cut spB (eu x)).length<6:=by
  rw[hc];have:=z_.2 (wO spB x.code);simp only[q_,l_,n_];omega
 have hcode:oW (eu x)=x.code:=by
  unfold oW;rw[hc];show jA (cut spB x.code) spB=x.code;exact uD spB (by decide) _ x.code (v_ _)
 have hraw:jQ (cut spB (eu x)) (oW (eu x))=x:=by
  unfold jQ;rw[hcode,hc];show(⟨qV (dM x.id),qV (dM x.ver),qV (dM x.kind),qL (jX x.name),x.code,qV (dM x.n)⟩:GCell)=x;rw[xA (by have:=g.id0;omega) (by have:=g.id1;omega),xA (by have:=g.v0;omega) (by have:=g.v1;omega),xA (by have:=g.k0;omega) (by have:=g.k1;omega),xA g.n0 (by have:=g.n1;omega),Rh g]
 unfold fB;rw[if_neg hlen,hraw,if_pos rfl]
theorem pW{s:ByteArray}(h:(fB s).2=true):eu (fB s).1=s:=by
 unfold fB at h⊢;split at h
 ·cases h
 ·next h1=>
  rw[if_neg h1];split at h
  ·next h2=>rw[if_pos h2];exact h2
  ·cases h
theorem pJ{s:ByteArray}(h:(fB s).2=true):fQ (fB s).1=true:=by
 have h1:=pW h;by_cases hv:fQ (fB s).1=true
 ·exact hv
 ·exfalso;have h2:eu (fB s).1=⟨#[]⟩:=by unfold eu;rw[if_neg hv]
  rw[h2]at h1;subst h1
  revert h
  unfold fB;rw[if_pos (by decide)];intro h;cases h
theorem Yq{x:GCell}(h:fQ x=true):∀y∈(eu x).data.toList,y≠10:=fun y hy=>by
 have g:=Pq h;have hf:eu x=jA (l7 x) spB:=by unfold eu;rw[if_pos h]
 rw[hf,wP]at hy;simp only[A_,V_,ByteArray.data_append,Array.toList_append,List.mem_append]at hy;have sp:∀y∈spB.data.toList,y≠(10:UInt8):=by decide
 rcases hy with hy|hy|hy|hy|hy|hy|hy|hy|hy|hy|hy
 ·exact uS (by decide) (by decide) y hy
 ·exact sp y hy
 ·exact uS (by decide) (by decide) y hy
 ·exact sp y hy
 ·exact uS (by decide) (by decide) y hy
 ·exact sp y hy
 ·exact uS (by decide) (by decide) y hy
 ·exact sp y hy
 ·exact JJ g (by decide) (by decide) (by decide) y hy
 ·exact sp y hy
 ·exact TA g.cd y hy
theorem NV{α:Type}{p:α→Bool}{l:List α}(h:∀x∈l,p x=true):FN p l=true:=by
 unfold FN
 suffices∀n,n≤l.length→allN (pAt p l) n=true from this _ (v_ _)
 intro n
 induction n with
 |zero=>intro _;rfl
 |succ n ih=>intro hn;exact oh (ih (by omega)) ((sH p (by omega)).trans (h _ (p_ _)))
theorem Qh{l:List GCell}(h:gu l=true):∀x∈l,fQ x=true:=by
 unfold gu at h;rw[s_]at h;have go:∀(r:List GCell) (k:Nat),iE l r k=true→∀x∈r,fQ x=true:=by
  intro r
  induction r with
  |nil=>intro k _ x hx;simp at hx
  | cons c r ih=>
    intro k hv x hx;rw[iE]at hv;simp only[s_]at hv;rcases M_.1 hx with rfl|hx
    ·exact hv.1.1
    ·exact ih (k+1) hv.2 x hx
 exact go l 0 h.1
theorem y7(l:List GCell):∀k,k≤l.length→nX l k=((l.take k).map eu).foldr (fun a t=>a++(nlB++t)) ⟨#[]⟩
 |0,_=>by rw[List.take_zero];rfl
 | k+1,h=>by
   have hk:k<l.length:=by omega
   have e0:∀(q:List ByteArray) (r:ByteArray),q.foldr (fun a t=>a++(nlB++t)) r=q.foldr (fun a t=>a++(nlB++t)) ⟨#[]⟩++r:=by
    intro q
    induction q with
    |nil=>intro r;show r=(⟨#[]⟩:ByteArray)++r;apply ByteArray.ext;simp
    |cons a q ih=>intro r;rw[A_,A_,ih r];simp[ByteArray.append_assoc]
   rw[nX,k_ hk];simp only;rw[y7 l k (by omega),F_ hk,List.map_append,List.foldr_append,e0 _ (List.foldr _ _ _)];simp[ByteArray.append_assoc];apply ByteArray.ext;simp
theorem JD{l:List GCell}(h:gu l=true):dX (kP l)=(l,true):=by
 have hv:=Qh h;have hf:kP l=(l.map eu).foldr (fun a t=>a++(nlB++t)) ⟨#[]⟩:=by
  unfold kP;rw[if_pos h,y7 l l.length (v_ _),R_]
 have hc:nlL (kP l)=l.map eu++ [⟨#[]⟩]:=by
  unfold nlL;rw[hf];refine(zl 10 _ _ fun a ha=> ?_).trans ?_
  ·obtain⟨x,hx,rfl⟩:=y_.1 ha;exact Yq (hv x hx)
  ·rw[Vq 10 _ (by simp)]
 have hlen:(nlL (kP l)).length - 1=(l.map eu).length:=by rw[hc];simp
 have hb:kT (kP l)=l.map eu:=by
  unfold kT;rw[hlen,hc,U_]
 have hlast:qx (kP l)=⟨#[]⟩:=by
  unfold qx;rw[hlen,hc,m_,List.getElem?_append_right (v_ _)];simp
 have hm:(l.map eu).map iH=l:=by
  rw[u_];refine(N_ fun x hx=> ?_).trans (X_ l);show(fB (eu x)).1=x;rw[CS (hv x hx)]
 have ho:FN okC (l.map eu)=true:=by
  refine NV fun s hs=> ?_
  obtain⟨x,hx,rfl⟩:=y_.1 hs;unfold okC;rw[CS (hv x hx)]
 unfold dX;rw[hlast,hb,hm,ho,if_pos (beq_self_eq_true _),if_pos rfl,if_pos h]
theorem xB{s:ByteArray}(h:(dX s).2=true):kP (dX s).1=s:=by
 have hcases:(qx s).toList=(⟨#[]⟩:ByteArray).toList∧FN okC (kT s)=true∧gu ((kT s).map iH)=true∧dX s=((kT s).map iH,true):=by
  unfold dX at h⊢;split at h
  ·next h1=>
   split at h
   ·next h2=>
    split at h
    ·next h3=>rw[if_pos h1,if_pos h2,if_pos h3];exact⟨by simpa using h1,h2,h3,rfl⟩
    ·cases h
   ·cases h
  ·cases h
 obtain⟨h1,h2,h3,h4⟩:=hcases;rw[h4];have hlast:qx s=⟨#[]⟩:=Ls (by rw[h1];simp[ByteArray.toList_eq]);have hm:((kT s).map iH).map eu=kT s:=by
  rw[u_];refine(N_ fun x hx=> ?_).trans (X_ _);exact pW (VO h2 x hx)
 have hf:kP ((kT s).map iH)=(kT s).foldr (fun a t=>a++(nlB++t)) ⟨#[]⟩:=by
  unfold kP;rw[if_pos h3,y7 _ _ (v_ _),R_,hm]
 have hne:nlL s≠[]:=wO nlB s;have hsplit:nlL s=kT s++ [⟨#[]⟩]:=by
  rw[← hlast];unfold kT qx;have hpos:=z_.2 hne;rw[m_,k_ (by omega),Option.getD_some,← List.dropLast_eq_take];have:=List.dropLast_concat_getLast hne;rw[List.getLast_eq_getElem]at this;exact this.symm
 rw[hf];show(kT s).foldr (fun a t=>a++((⟨#[10]⟩:ByteArray)++t)) ⟨#[]⟩=s;rw[← wH 10];show jA (kT s++ [⟨#[]⟩]) nlB=s;rw[← hsplit];exact uD nlB (by decide) _ s (v_ _)
end
end Go.Proofs.YtfengkmaphbofaaGreatDoor
