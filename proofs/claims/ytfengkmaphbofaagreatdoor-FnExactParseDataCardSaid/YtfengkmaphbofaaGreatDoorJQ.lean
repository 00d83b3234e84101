/-
  Texts joined: Pd2.
-/
import Derived.Test.YtfengkmaphbofaaGreatDoorJP
import Derived.Test.YtfengkmaphbofaaGreatDoorJE
set_option maxHeartbeats 16000000
set_option linter.unusedSimpArgs false
set_option linter.unusedVariables false
namespace Go.Proofs.YtfengkmaphbofaaGreatDoor
open Go.RowKit
open Value renaming oneCell'→a_,string→I_
open List renaming length_map→b_,length_cons→e_,getElem_mem→f_,flatMap_cons→i_,flatMap_nil→j_,append_nil→m_,take_succ_eq_append_getElem→n_,length_nil→o_,getD_eq_getElem?_getD→p_,getElem?_eq_getElem→q_,take_append_getElem→r_,map_cons→s_,map_nil→t_,length_append→u_,take_of_length_le→w_,getElem_map→y_,length_take→z_,eq_nil_of_length_eq_zero→A_,cons_append→B_,mem_map→C_,nil_append→E_,replicate→F_,mem_of_mem_drop→G_,map_drop→H_
open Bool renaming and_eq_true→c_,false_eq_true→d_
open Nat renaming reduceAdd→g_,reduceSub→h_,reduceLeDiff→k_,reduceEqDiff→l_,le_refl→v_,zero_le→x_,succ_pos→D_
attribute [local irreducible] sw sd sn
theorem Bq(l:List ByteArray):mZ (l.map ls):=wY (g:=ls) (fun x w f cs h=>(show f= []∧_ from h).1) l
theorem L9(s sep:ByteArray)(hs:s.size≤1048576)(h1:1≤sep.size):mM Tryz.prog 35 [ls s,ls sep] ((cut sep s).map ls) 9 1:=fun w vs hr ht=>by
 obtain⟨v,u,rfl,g1,g2⟩:=Rt hr;obtain rfl:=jc g1;obtain rfl:=jc g2;obtain⟨_,_,_,m,hm⟩:=ht;refine(Tryz.strings_Split s sep m w (by omega) hm h1).mono ?_;rintro e w' ⟨rfl,rfl⟩;have hl:=EZ sep s h1;have hle:=lH sep s h1;have hat:=eP.of (World.ownsRow_lit (base:=w.heap.size) (e:=9) (size:=1) w ((cut sep s).map I_).toArray (Lib.countB s sep+1) (v_ _) (by unfold maxLen;omega) (by simp[hl]));exact⟨_,(cut sep s).map I_,[],rfl,by rw[b_,hl];simp only[List.toList_toArray]at hat;exact hat,uq _,fun b hb=>by simp at hb,(Below.refl _ _).alloc (v_ _) _⟩
def vH :IC:=(zd_ [zz_ 4 (.mov (.k (.slice none 0 0)))] (zd_ [zw_ 5 0,zw_ 6 1,zz_ 7 (.brow true 5 1 1 false [(.t 6)]),zz_ 8 (.cvs (.t 7)),zp_ 9 35 5 8,zw_ 4 9] .ret))
theorem yZ :dG Tryz.prog (Tryz.f36.body.getD .skip)=some vH:=by kernel_rfl
theorem nS(s:ByteArray)(c:UInt8)(hs:s.size≤1048576):mM Tryz.prog 36 [ls s,lu8 c] ((cut ⟨#[c]⟩ s).map ls) 9 1:=by
 refine Nv (fn:=Tryz.f36) (t:=4) (hc:=yZ) (h:= ?_);unfold vH;refine zb_ ?_;change AWP _ _ _ (st0 10 _);unfold lu8;simp only[undef,stS,st0,stN,D.av,D.avN,cO,aS,dh,cZ,aK,eU,aJ,aI,s_,t_,F_,B_,E_,e_,o_,g_,h_];have hi:=L9 s ⟨#[c]⟩ hs (v_ 1);have hb:jk [.leaf (.int .u8 (c.toNat:Int))]=some [c]:=uP [c]
 repeat' (first|(with_reducible first|refine bW ?_|refine bn ?_|refine bG ?_|refine bH ?_|refine bZ ?_|refine dQ ?_|refine bC ?_|refine bU ?_|refine aO ?_|refine aY ?_|refine bF ?_|refine aW ?_|refine bD ?_|refine aQ ?_|refine aV ?_)|((with_reducible refine aX ?_ ?_);rfl)|((with_reducible refine aZ ?_ ?_);rfl)|((with_reducible refine bg ?_ ?_);rfl)|(with_reducible (refine bf rfl ?_ ?_);all_goals(intro hb;have hb':=hb;(try simp only[pkC]at hb');try(exfalso;omega)))|(refine rg_ ?_;intro K hK)|(refine hq_ ?_;clear hK K)|refine ca_ ?_ ?_|(refine cg_ ?_;first|(refine Fb hi (aA _) ?_ ?_))|((with_reducible refine dP ?_);simp(disch:=first|decide|omega) only[↓pkS,pkW,pkA,undef,i_,j_,m_,bJ,dS,lvD,dU,lcD,lvK,lcK,bI,dn,bK,ex,St.put,St.ev,kav,gdA,opI,dK,dW,dD,dR,dV,AV.toD,AC.toD,AV.nw,AC.nw,AC.one,a_,aG,ak,aB,aF,aN,aH,if_true,if_false,d_,dF,D.one,D.ones,D.sz,D.szs,g_,h_,k_,l_,reduceIte,pkN,aJ,aI,aK,GRow.ay,GRow.aj,GRow.au,GRow.el,aC,aA,hb])|(first|(with_reducible rfl)|(with_reducible refine bV ?_;kernel_rfl)|exact aA _|exact aC _|exact el_ln _|exact el_tk _ _|exact el_td _ _ _|omega|(simp;done)|(simp;omega))|((with_reducible refine cu ?_);simp[bM,dM,dJ,dY,AC.toD,aG,ak,aB,aF,a_,bP,aU,bT,bQ,cO,aS,dh,cZ,eF,eG,aJ,aI,aK,GRow.ay,GRow.aj,GRow.au,GRow.el,aC,aA,hb];first|done|rfl))
 exact⟨1,0,_,rfl,rfl,rfl,rfl,rfl,rfl,Or.inl rfl⟩
def rG :IC:=(zd_ [zz_ 2 (.alloc [(.int .i64 0),(.int .i64 0),(.int .i64 0),(.string ⟨#[]⟩),(.slice none 0 0),(.slice none 0 0),(.slice none 0 0)]),zj_ 3 false] (zd_ [zw_ 10 0,zz_ 11 (.call 35 [(.t 10),(.k (.string ⟨#[59,32]⟩))]),zw_ 4 11] (zd_ [zw_ 12 4,zz_ 13 (.iad 1 (.t 12) (.k (.int .i64 0))),zs_ 14 1 13,zz_ 15 (.call 36 [(.t 14),(.k (.int .u8 32))]),zz_ 16 (.bld [(.int .i64 0),(.int .i64 0),(.int .i64 0),(.string ⟨#[]⟩),(.slice none 0 0),(.slice none 0 0),(.slice none 0 0)] [(0,1,(.k (.int .i64 5))),(5,1,(.t 15))]),zz_ 5 (.alloc [(.int .i64 0),(.int .i64 0),(.int .i64 0),(.string ⟨#[]⟩),(.slice none 0 0),(.slice none 0 0),(.slice none 0 0)]),⟨none,none,.store 7 (.t 5) (.t 16)⟩] (.seq (zd_ [zw_ 17 4,zz_ 18 (.lsl 1 (.t 17) (some (.k (.int .i64 1))) none),zf_ 19 false 18,zk_ 20 0] (.block 0 (.loop (zd_ [zl_ 21 .lss 20 19] (.seq (.cond (.t 21) .skip (.exit 0)) (.seq (.block 1 (zd_ [ze_ 22 1 18 20,zs_ 23 1 22,zw_ 7 23] (zd_ [zw_ 25 7,zt_ 26 5 5,zs_ 27 1 26,zf_ 28 false 27,zp_ 29 37 25 28,zw_ 24 29,zz_ 30 (.ext 0 (.t 24)),zz_ 31 (.ext 1 (.t 24)),zw_ 8 30,zw_ 9 31] (.seq (zd_ [zw_ 32 9,zz_ 33 (.not (.t 32))] (.cond (.t 33) (zd_ [zz_ 34 (.bld [(.int .i64 0),(.int .i64 0),(.int .i64 0),(.string ⟨#[]⟩),(.slice none 0 0),(.slice none 0 0),(.slice none 0 0)] []),⟨none,none,.store 7 (.t 2) (.t 34)⟩,zj_ 3 false] .ret) .skip)) (.reg false [zt_ 35 6 5,zs_ 36 1 35,zw_ 37 8,zz_ 38 (.bld [(.slice none 0 0),(.slice none 0 0)] [(0,1,(.t 37))]),zz_ 39 (.brow false 60 2 1 false [(.t 38)]),zz_ 40 (.app 60 2 (.t 36) (.t 39)),zt_ 41 6 5,⟨none,none,.store 1 (.t 41) (.t 40)⟩]))))) (.reg false [zm_ 42 .add 20 1,zw_ 20 42]))))))) (.seq (zd_ [zr_ 43 7 5,zq_ 44 38 43,zz_ 45 (.not (.t 44))] (.cond (.t 45) (zd_ [zz_ 46 (.bld [(.int .i64 0),(.int .i64 0),(.int .i64 0),(.string ⟨#[]⟩),(.slice none 0 0),(.slice none 0 0),(.slice none 0 0)] []),⟨none,none,.store 7 (.t 2) (.t 46)⟩,zj_ 3 false] .ret) .skip)) (zd_ [zr_ 47 7 5,⟨none,none,.store 7 (.t 2) (.t 47)⟩,zj_ 3 true] .ret))))))
theorem rF :dG Tryz.prog (Tryz.f7.body.getD .skip)=some rG:=by kernel_rfl
theorem tH(s:ByteArray)(hs:s.size≤1048576)(hD:isD s=true)(hT0:fA s≠[]):lT Tryz.prog 7 [ls s] (.tup [(true,[.raw (.int .i64 5),.raw (.int .i64 0),.raw (.int .i64 0),.raw (.string ⟨#[]⟩),.raw (.slice none 0 0),.own 0 0,.own 1 0]),(false,[.raw (.bool true)])]) [⟨(gB s).map ls,9,1,0,⟨true,true⟩⟩,⟨(fA s).map gJ,60,2,0,⟨true,true⟩⟩]:=by
 refine rU (fn:=Tryz.f7) (r:= .cell 2 26) (q:= .tmp 3) (hc:=rF) (h:= ?_);unfold rG;refine zb_ ?_;change AWP _ _ _ (st0 48 _);simp only[undef,stS,st0,stN,D.av,D.avN,cO,aS,dh,cZ,aK,eU,aJ,aI,s_,t_,F_,B_,E_,e_,o_,g_,h_];have hz:=N8 hs;obtain⟨ps,hps⟩:∃l,jO s=l:=⟨_,rfl⟩
 obtain⟨cols,hcols⟩:∃l,gB s=l:=⟨_,rfl⟩
 obtain⟨tl,htl⟩:∃l,fA s=l:=⟨_,rfl⟩
 obtain⟨z1,z2,z3,z4,z5⟩:=hz;rw[hps]at z1 z2 z3 z5;rw[hcols]at z4;rw[htl]at z5;have htd:tl=ps.drop 1:=by rw[← htl,← hps];rfl
 have htz:∀p∈tl,p.size≤1048576:=fun p hp=>z3 p (by rw[htd]at hp;exact G_ hp)
 obtain⟨hd,hhd⟩:∃h,headD s=h:=⟨_,rfl⟩
 have hhm:hd∈ps:=by
  rw[← hhd];unfold headD;rw[hps,p_,q_ z2];exact f_ z2
 have hi0:idx (ps.map ls) (some 0)=some (ls hd):=by
  have:=jH ls ps (k:=0) z2;rw[show((0:Nat):Int)=0 from rfl]at this;rw[this,← hhd];unfold headD;rw[hps,p_,q_ z2];rfl
 have hcc:cut spB hd=cols:=by rw[← hcols,← hhd];rfl
 have hT:((ps.map ls).take ps.length).drop 1=tl.map ls:=by rw[w_ (by rw[b_];exact v_ _),← H_,htd]
 have hsb:kL (some 1) none ps.length=some (1,ps.length):=qQ (by omega);have hrg:jU (dZ cols.length) tl=true:=by
  have h0:=hD;unfold isD at h0;rw[hcols,htl]at h0;simp only[c_]at h0;exact h0.1
 have hsp:dN Tryz.prog 35 [ls s,ls ⟨#[59,32]⟩] (.c false [.sl true (ps.map ls)]):=by
  rw[← hps];exact uX s ⟨#[59,32]⟩ hs (show 1≤2 by decide)
 have hspc:mM Tryz.prog 36 [ls hd,.leaf (.int .u8 32)] (cols.map ls) 9 1:=by
  rw[← hcc];exact nS hd 32 (z3 hd hhm)
 repeat' (first|(with_reducible first|refine bW ?_|refine bn ?_|refine bG ?_|refine bH ?_|refine bZ ?_|refine dQ ?_|refine bC ?_|refine bU ?_|refine aO ?_|refine aY ?_|refine bF ?_|refine aW ?_|refine bD ?_|refine aQ ?_|refine aV ?_)|((with_reducible refine aX ?_ ?_);rfl)|((with_reducible refine aZ ?_ ?_);rfl)|((with_reducible refine bg ?_ ?_);rfl)|(with_reducible (refine bf rfl ?_ ?_);all_goals(intro hb;have hb':=hb;(try simp only[pkC]at hb');try(exfalso;omega)))|(refine rg_ ?_;intro K hK)|(refine hq_ ?_;clear hK K)|refine ca_ ?_ ?_|(refine cg_ ?_;first|refine cT_ hsp ?_|(refine Fb hspc (aA _) ?_ ?_))|((with_reducible refine dP ?_);simp(disch:=first|decide|omega) only[↓pkS,pkW,pkA,undef,i_,j_,m_,bJ,dS,lvD,dU,lcD,lvK,lcK,bI,dn,bK,ex,St.put,St.ev,kav,gdA,opI,dK,dW,dD,dR,dV,AV.toD,AC.toD,AV.nw,AC.nw,AC.one,a_,aG,ak,aB,aF,aN,aH,if_true,if_false,d_,dF,D.one,D.ones,D.sz,D.szs,g_,h_,k_,l_,reduceIte,pkN,aJ,aI,aK,GRow.ay,GRow.aj,GRow.au,GRow.el,aC,aA,hi0,hT,hsb])|(first|(with_reducible rfl)|(with_reducible refine bV ?_;kernel_rfl)|exact aA _|exact aC _|exact el_ln _|exact el_tk _ _|exact el_td _ _ _|omega|(simp;done)|(simp;omega))|((with_reducible refine cu ?_);simp[bM,dM,dJ,dY,AC.toD,aG,ak,aB,aF,a_,bP,aU,bT,bQ,cO,aS,dh,cZ,eF,eG,aJ,aI,aK,GRow.ay,GRow.aj,GRow.au,GRow.el,aC,aA,hi0,hT,hsb];first|done|rfl))
 clear hsp hspc;refine DZ (X:=Nat×Option Nat) (fun q=> [.d,.d,.k,.d,.d,.k,.d,.d,.d,.d,.d,.d,.d,.d,.d,.d,.d,.d,.k,.k,.v (.c false [.raw (.int .i64 (q.1:Nat))])]) (fun q=>match q.2 with|none=> [⟨cols.map ls,9,1,0,true⟩]|some w=> [⟨cols.map ls,9,1,0,true⟩,⟨(tl.map gJ).take q.1,60,2,w,⟨true,true⟩⟩]) (fun q bs=> [[.raw (.int .i64 0),.raw (.int .i64 0),.raw (.int .i64 0),.raw (.string ⟨#[]⟩),.raw (.slice none 0 0),.raw (.slice none 0 0),.raw (.slice none 0 0)],[.raw (.int .i64 5),.raw (.int .i64 0),.raw (.int .i64 0),.raw (.string ⟨#[]⟩),.raw (.slice none 0 0),.own 0 0,(match q.2 with|none=> .raw (.slice none 0 0)|some w=> .own 1 w)]]) (fun q=>q.1≤tl.length∧(match q.2 with|none=>q.1=0|some _=>0<q.1)) (fun q=>tl.length - q.1) (0,none) [0] ⟨x_ _,rfl⟩ ?_ ?_
 ·simp[sD,wF,qF,qJ,AV.ren,AC.ren,AV.fits,AC.fits,FB,eX]
 have hsm:(qN s).small:=by
  refine⟨by show(gB s).length≤_;rw[hcols];omega,fun w hw=> ?_,by show((fA s).map lC).length≤_;rw[b_,htl];omega,fun r hr=> ?_,fun r hr=> ?_⟩
  ·have hw2:w∈cut spB (headD s):=hw;have:=jC (sep:=spB) (by decide) hw2;have:=z3 hd hhm;rw[← hhd]at this;omega
  ·obtain⟨p,hp,rfl⟩:=C_.1 (show r∈(fA s).map lC from hr);rw[htl]at hp;show(iT p).length≤_;unfold iT;rw[b_];have h1:=htz p hp;have:=lH spB p (by decide);omega
  ·obtain⟨p,hp,rfl⟩:=C_.1 (show r∈(fA s).map lC from hr);exact x_ _
 have hval:∀X:D,X.fix= .sl (((fA s).map lC).map GRow.toD)→jU (dZ cols.length) tl=true→dN Tryz.prog 38 [.agg [li 5,li 0,li 0,ls ⟨#[]⟩,.sl [],.sl (cols.map ls),X]] (.c false [.raw (.bool (isD s))]):=fun X hX hA=>by
  have h:=qM (qN s) hsm rfl (x_ _);have hA2:jU (dZ (gB s).length) (fA s)=true:=by rw[hcols,htl];exact hA
  rw[nP hA2,GVal.dI]at h;have he:isD s=(jr (gB s) && decide ((fA s).length≤12)):=by unfold isD;rw[hA2];rfl
  rw[he];refine dN.Qj ?_;show dN _ _ [.agg [li 5,li 0,li 0,ls ⟨#[]⟩,.sl [],.sl (D.nG (cols.map ls)),X.fix]] _;rw[hX,qw,← hcols];exact h
 rintro⟨k,_|v⟩ ⟨hk,hk0⟩
 ·simp only at hk hk0;subst hk0;simp only[FB,eX];by_cases hlk:0<tl.length
  ·have hg:idx (tl.map ls) (some ((0:Nat):Int))=some (ls tl[0]):=jH ls tl hlk;have hpz:=htz _ (f_ hlk);have hgd:=og hrg _ (f_ hlk);have hro:iP tl[0]=true:=by unfold dZ at hgd;simp only[c_]at hgd;exact hgd.1
   have hlen:(iT tl[0]).length=cols.length:=by unfold dZ at hgd;simp only[c_,decide_eq_true_eq]at hgd;exact hgd.2
   have hrow:=ny tl[0] cols.length hpz z4 hro;rw[decide_eq_true hlen]at hrow;have htk:(tl.map gJ).take (0+1)=(tl.map gJ).take 0++ [gJ tl[0]]:=by
    rw[n_ (by rw[b_];exact hlk),y_]
   repeat' (first|(with_reducible first|refine bW ?_|refine bn ?_|refine bG ?_|refine bH ?_|refine bZ ?_|refine dQ ?_|refine bC ?_|refine bU ?_|refine aO ?_|refine aY ?_|refine bF ?_|refine aW ?_|refine bD ?_|refine aQ ?_|refine aV ?_)|((with_reducible refine aX ?_ ?_);rfl)|((with_reducible refine aZ ?_ ?_);rfl)|((with_reducible refine bg ?_ ?_);rfl)|(with_reducible (refine bf rfl ?_ ?_);all_goals(intro hb;have hb':=hb;(try simp only[pkC]at hb');try(exfalso;omega)))|(refine rg_ ?_;intro K hK)|(refine hq_ ?_;clear hK K)|refine ca_ ?_ ?_|(refine cg_ ?_;first|(refine vX hrow rfl (by simp) ?_ ?_))|((with_reducible refine dP ?_);simp(disch:=first|decide|omega) only[↓pkS,pkW,pkA,undef,i_,j_,m_,bJ,dS,lvD,dU,lcD,lvK,lcK,bI,dn,bK,ex,St.put,St.ev,kav,gdA,opI,dK,dW,dD,dR,dV,AV.toD,AC.toD,AV.nw,AC.nw,AC.one,a_,aG,ak,aB,aF,aN,aH,if_true,if_false,d_,dF,D.one,D.ones,D.sz,D.szs,g_,h_,k_,l_,reduceIte,pkN,aJ,aI,aK,GRow.ay,GRow.aj,GRow.au,GRow.el,aC,aA,hg,AV.shift,AC.shift,iG])|(first|(with_reducible rfl)|(with_reducible refine bV ?_;kernel_rfl)|exact aA _|exact aC _|exact el_ln _|exact el_tk _ _|exact el_td _ _ _|omega|(simp;done)|(simp;omega))|((with_reducible refine cu ?_);simp[bM,dM,dJ,dY,AC.toD,aG,ak,aB,aF,a_,bP,aU,bT,bQ,cO,aS,dh,cZ,eF,eG,aJ,aI,aK,GRow.ay,GRow.aj,GRow.au,GRow.el,aC,aA,hg,AV.shift,AC.shift,iG];first|done|rfl))
   all_goals first
    |(simp only[b_,u_,e_,o_,z_];omega)
    | (refine Et (1,some (0)) [0,3] ?_ ⟨show 1≤tl.length by omega,D_ _⟩ (show tl.length - (1)<tl.length - 0 by omega)
       simp only[sD,wF,qF,qJ,AV.ren,AC.ren,AV.fits,AC.fits,FB,eX,htk];simp[AV.fits,AC.fits,AC.ren,gJ, -r_])
  have htl0:tl= []:=A_ (by omega);have hz0:tl.length=0:=by omega
  exact absurd (htl.trans htl0) hT0
 ·simp only at hk hk0;simp only[FB,eX];by_cases hlk:k<tl.length
  ·have hg:idx (tl.map ls) (some ((k:Nat):Int))=some (ls tl[k]):=jH ls tl hlk;have hpz:=htz _ (f_ hlk);have hgd:=og hrg _ (f_ hlk);have hro:iP tl[k]=true:=by unfold dZ at hgd;simp only[c_]at hgd;exact hgd.1
   have hlen:(iT tl[k]).length=cols.length:=by unfold dZ at hgd;simp only[c_,decide_eq_true_eq]at hgd;exact hgd.2
   have hrow:=ny tl[k] cols.length hpz z4 hro;rw[decide_eq_true hlen]at hrow;have htk:(tl.map gJ).take (k+1)=(tl.map gJ).take k++ [gJ tl[k]]:=by
    rw[n_ (by rw[b_];exact hlk),y_]
   repeat' (first|(with_reducible first|refine bW ?_|refine bn ?_|refine bG ?_|refine bH ?_|refine bZ ?_|refine dQ ?_|refine bC ?_|refine bU ?_|refine aO ?_|refine aY ?_|refine bF ?_|refine aW ?_|refine bD ?_|refine aQ ?_|refine aV ?_)|((with_reducible refine aX ?_ ?_);rfl)|((with_reducible refine aZ ?_ ?_);rfl)|((with_reducible refine bg ?_ ?_);rfl)|(with_reducible (refine bf rfl ?_ ?_);all_goals(intro hb;have hb':=hb;(try simp only[pkC]at hb');try(exfalso;omega)))|(refine rg_ ?_;intro K hK)|(refine hq_ ?_;clear hK K)|refine ca_ ?_ ?_|(refine cg_ ?_;first|(refine vX hrow rfl (by simp) ?_ ?_))|((with_reducible refine dP ?_);simp(disch:=first|decide|omega) only[↓pkS,pkW,pkA,undef,i_,j_,m_,bJ,dS,lvD,dU,lcD,lvK,lcK,bI,dn,bK,ex,St.put,St.ev,kav,gdA,opI,dK,dW,dD,dR,dV,AV.toD,AC.toD,AV.nw,AC.nw,AC.one,a_,aG,ak,aB,aF,aN,aH,if_true,if_false,d_,dF,D.one,D.ones,D.sz,D.szs,g_,h_,k_,l_,reduceIte,pkN,aJ,aI,aK,GRow.ay,GRow.aj,GRow.au,GRow.el,aC,aA,hg,AV.shift,AC.shift,iG])|(first|(with_reducible rfl)|(with_reducible refine bV ?_;kernel_rfl)|exact aA _|exact aC _|exact el_ln _|exact el_tk _ _|exact el_td _ _ _|omega|(simp;done)|(simp;omega))|((with_reducible refine cu ?_);simp[bM,dM,dJ,dY,AC.toD,aG,ak,aB,aF,a_,bP,aU,bT,bQ,cO,aS,dh,cZ,eF,eG,aJ,aI,aK,GRow.ay,GRow.aj,GRow.au,GRow.el,aC,aA,hg,AV.shift,AC.shift,iG];first|done|rfl))
   all_goals first
    |(simp only[b_,u_,e_,o_,z_];omega)
    | (refine Et (k+1,some (v+1)) [0,1] ?_ ⟨show k+1≤tl.length by omega,D_ _⟩ (show tl.length - (k+1)<tl.length - k by omega)
       simp only[sD,wF,qF,qJ,AV.ren,AC.ren,AV.fits,AC.fits,FB,eX,htk];simp[AV.fits,AC.fits,AC.ren,gJ, -r_])
  obtain rfl:k=tl.length:=by omega
  have hfin:(tl.map gJ).take tl.length=tl.map gJ:=w_ (by rw[b_];exact v_ _);have hd:=hval (.sl ((tl.map gJ).take tl.length)) (by rw[hfin,D.fix,nI,htl]) hrg;rw[hD]at hd
  repeat' (first|(with_reducible first|refine bW ?_|refine bn ?_|refine bG ?_|refine bH ?_|refine bZ ?_|refine dQ ?_|refine bC ?_|refine bU ?_|refine aO ?_|refine aY ?_|refine bF ?_|refine aW ?_|refine bD ?_|refine aQ ?_|refine aV ?_)|((with_reducible refine aX ?_ ?_);rfl)|((with_reducible refine aZ ?_ ?_);rfl)|((with_reducible refine bg ?_ ?_);rfl)|(with_reducible (refine bf rfl ?_ ?_);all_goals(intro hb;have hb':=hb;(try simp only[pkC]at hb');try(exfalso;omega)))|(refine rg_ ?_;intro K hK)|(refine hq_ ?_;clear hK K)|refine ca_ ?_ ?_|((with_reducible refine DU ?_);refine rV hd trivial ?_ ?_)|((with_reducible refine dP ?_);simp(disch:=first|decide|omega) only[↓pkS,pkW,pkA,undef,i_,j_,m_,bJ,dS,lvD,dU,lcD,lvK,lcK,bI,dn,bK,ex,St.put,St.ev,kav,gdA,opI,dK,dW,dD,dR,dV,AV.toD,AC.toD,AV.nw,AC.nw,AC.one,a_,aG,ak,aB,aF,aN,aH,if_true,if_false,d_,dF,D.one,D.ones,D.sz,D.szs,g_,h_,k_,l_,reduceIte,pkN,aJ,aI,aK,GRow.ay,GRow.aj,GRow.au,GRow.el,aC,aA,gG,eY,fO,iy])|(first|(with_reducible rfl)|(with_reducible refine bV ?_;kernel_rfl)|exact aA _|exact aC _|exact el_ln _|exact el_tk _ _|exact el_td _ _ _|omega|(simp;done)|(simp;omega))|((with_reducible refine cu ?_);simp[bM,dM,dJ,dY,AC.toD,aG,ak,aB,aF,a_,bP,aU,bT,bQ,cO,aS,dh,cZ,eF,eG,aJ,aI,aK,GRow.ay,GRow.aj,GRow.au,GRow.el,aC,aA,gG,eY,fO,iy];first|done|rfl))
  exact dX ⟨[0,1],by simp,⟨⟨_,rfl,by rw[hcols],Or.inr (Bq _)⟩,⟨_,rfl,by rw[htl,hfin],Or.inl ⟨rfl,rfl⟩⟩,trivial⟩,⟨0,_,rfl,rfl,by simp[oq,zJ]⟩,⟨_,rfl,rfl,trivial⟩⟩
theorem tJ(s:ByteArray)(hs:s.size≤1048576)(hD:isD s=true)(hT0:fA s= []):lT Tryz.prog 7 [ls s] (.tup [(true,[.raw (.int .i64 5),.raw (.int .i64 0),.raw (.int .i64 0),.raw (.string ⟨#[]⟩),.raw (.slice none 0 0),.own 0 0,.raw (.slice none 0 0)]),(false,[.raw (.bool true)])]) [⟨(gB s).map ls,9,1,0,⟨true,true⟩⟩]:=by
 refine rU (fn:=Tryz.f7) (r:= .cell 2 26) (q:= .tmp 3) (hc:=rF) (h:= ?_);unfold rG;refine zb_ ?_;change AWP _ _ _ (st0 48 _);simp only[undef,stS,st0,stN,D.av,D.avN,cO,aS,dh,cZ,aK,eU,aJ,aI,s_,t_,F_,B_,E_,e_,o_,g_,h_];have hz:=N8 hs;obtain⟨ps,hps⟩:∃l,jO s=l:=⟨_,rfl⟩
 obtain⟨cols,hcols⟩:∃l,gB s=l:=⟨_,rfl⟩
 obtain⟨tl,htl⟩:∃l,fA s=l:=⟨_,rfl⟩
 obtain⟨z1,z2,z3,z4,z5⟩:=hz;rw[hps]at z1 z2 z3 z5;rw[hcols]at z4;rw[htl]at z5;have htd:tl=ps.drop 1:=by rw[← htl,← hps];rfl
 have htz:∀p∈tl,p.size≤1048576:=fun p hp=>z3 p (by rw[htd]at hp;exact G_ hp)
 obtain⟨hd,hhd⟩:∃h,headD s=h:=⟨_,rfl⟩
 have hhm:hd∈ps:=by
  rw[← hhd];unfold headD;rw[hps,p_,q_ z2];exact f_ z2
 have hi0:idx (ps.map ls) (some 0)=some (ls hd):=by
  have:=jH ls ps (k:=0) z2;rw[show((0:Nat):Int)=0 from rfl]at this;rw[this,← hhd];unfold headD;rw[hps,p_,q_ z2];rfl
 have hcc:cut spB hd=cols:=by rw[← hcols,← hhd];rfl
 have hT:((ps.map ls).take ps.length).drop 1=tl.map ls:=by rw[w_ (by rw[b_];exact v_ _),← H_,htd]
 have hsb:kL (some 1) none ps.length=some (1,ps.length):=qQ (by omega);have hrg:jU (dZ cols.length) tl=true:=by
  have h0:=hD;unfold isD at h0;rw[hcols,htl]at h0;simp only[c_]at h0;exact h0.1
 have hsp:dN Tryz.prog 35 [ls s,ls ⟨#[59,32]⟩] (.c false [.sl true (ps.map ls)]):=by
  rw[← hps];exact uX s ⟨#[59,32]⟩ hs (show 1≤2 by decide)
 have hspc:mM Tryz.prog 36 [ls hd,.leaf (.int .u8 32)] (cols.map ls) 9 1:=by
  rw[← hcc];exact nS hd 32 (z3 hd hhm)
 repeat' (first|(with_reducible first|refine bW ?_|refine bn ?_|refine bG ?_|refine bH ?_|refine bZ ?_|refine dQ ?_|refine bC ?_|refine bU ?_|refine aO ?_|refine aY ?_|refine bF ?_|refine aW ?_|refine bD ?_|refine aQ ?_|refine aV ?_)|((with_reducible refine aX ?_ ?_);rfl)|((with_reducible refine aZ ?_ ?_);rfl)|((with_reducible refine bg ?_ ?_);rfl)|(with_reducible (refine bf rfl ?_ ?_);all_goals(intro hb;have hb':=hb;(try simp only[pkC]at hb');try(exfalso;omega)))|(refine rg_ ?_;intro K hK)|(refine hq_ ?_;clear hK K)|refine ca_ ?_ ?_|(refine cg_ ?_;first|refine cT_ hsp ?_|(refine Fb hspc (aA _) ?_ ?_))|((with_reducible refine dP ?_);simp(disch:=first|decide|omega) only[↓pkS,pkW,pkA,undef,i_,j_,m_,bJ,dS,lvD,dU,lcD,lvK,lcK,bI,dn,bK,ex,St.put,St.ev,kav,gdA,opI,dK,dW,dD,dR,dV,AV.toD,AC.toD,AV.nw,AC.nw,AC.one,a_,aG,ak,aB,aF,aN,aH,if_true,if_false,d_,dF,D.one,D.ones,D.sz,D.szs,g_,h_,k_,l_,reduceIte,pkN,aJ,aI,aK,GRow.ay,GRow.aj,GRow.au,GRow.el,aC,aA,hi0,hT,hsb])|(first|(with_reducible rfl)|(with_reducible refine bV ?_;kernel_rfl)|exact aA _|exact aC _|exact el_ln _|exact el_tk _ _|exact el_td _ _ _|omega|(simp;done)|(simp;omega))|((with_reducible refine cu ?_);simp[bM,dM,dJ,dY,AC.toD,aG,ak,aB,aF,a_,bP,aU,bT,bQ,cO,aS,dh,cZ,eF,eG,aJ,aI,aK,GRow.ay,GRow.aj,GRow.au,GRow.el,aC,aA,hi0,hT,hsb];first|done|rfl))
 clear hsp hspc;refine DZ (X:=Nat×Option Nat) (fun q=> [.d,.d,.k,.d,.d,.k,.d,.d,.d,.d,.d,.d,.d,.d,.d,.d,.d,.d,.k,.k,.v (.c false [.raw (.int .i64 (q.1:Nat))])]) (fun q=>match q.2 with|none=> [⟨cols.map ls,9,1,0,true⟩]|some w=> [⟨cols.map ls,9,1,0,true⟩,⟨(tl.map gJ).take q.1,60,2,w,⟨true,true⟩⟩]) (fun q bs=> [[.raw (.int .i64 0),.raw (.int .i64 0),.raw (.int .i64 0),.raw (.string ⟨#[]⟩),.raw (.slice none 0 0),.raw (.slice none 0 0),.raw (.slice none 0 0)],[.raw (.int .i64 5),.raw (.int .i64 0),.raw (.int .i64 0),.raw (.string ⟨#[]⟩),.raw (.slice none 0 0),.own 0 0,(match q.2 with|none=> .raw (.slice none 0 0)|some w=> .own 1 w)]]) (fun q=>q.1≤tl.length∧(match q.2 with|none=>q.1=0|some _=>0<q.1)) (fun q=>tl.length - q.1) (0,none) [0] ⟨x_ _,rfl⟩ ?_ ?_
 ·simp[sD,wF,qF,qJ,AV.ren,AC.ren,AV.fits,AC.fits,FB,eX]
 have hsm:(qN s).small:=by
  refine⟨by show(gB s).length≤_;rw[hcols];omega,fun w hw=> ?_,by show((fA s).map lC).length≤_;rw[b_,htl];omega,fun r hr=> ?_,fun r hr=> ?_⟩
  ·have hw2:w∈cut spB (headD s):=hw;have:=jC (sep:=spB) (by decide) hw2;have:=z3 hd hhm;rw[← hhd]at this;omega
  ·obtain⟨p,hp,rfl⟩:=C_.1 (show r∈(fA s).map lC from hr);rw[htl]at hp;show(iT p).length≤_;unfold iT;rw[b_];have h1:=htz p hp;have:=lH spB p (by decide);omega
  ·obtain⟨p,hp,rfl⟩:=C_.1 (show r∈(fA s).map lC from hr);exact x_ _
 have hval:∀X:D,X.fix= .sl (((fA s).map lC).map GRow.toD)→jU (dZ cols.length) tl=true→dN Tryz.prog 38 [.agg [li 5,li 0,li 0,ls ⟨#[]⟩,.sl [],.sl (cols.map ls),X]] (.c false [.raw (.bool (isD s))]):=fun X hX hA=>by
  have h:=qM (qN s) hsm rfl (x_ _);have hA2:jU (dZ (gB s).length) (fA s)=true:=by rw[hcols,htl];exact hA
  rw[nP hA2,GVal.dI]at h;have he:isD s=(jr (gB s) && decide ((fA s).length≤12)):=by unfold isD;rw[hA2];rfl
  rw[he];refine dN.Qj ?_;show dN _ _ [.agg [li 5,li 0,li 0,ls ⟨#[]⟩,.sl [],.sl (D.nG (cols.map ls)),X.fix]] _;rw[hX,qw,← hcols];exact h
 rintro⟨k,_|v⟩ ⟨hk,hk0⟩
 ·simp only at hk hk0;subst hk0;simp only[FB,eX];by_cases hlk:0<tl.length
  ·have hg:idx (tl.map ls) (some ((0:Nat):Int))=some (ls tl[0]):=jH ls tl hlk;have hpz:=htz _ (f_ hlk);have hgd:=og hrg _ (f_ hlk);have hro:iP tl[0]=true:=by unfold dZ at hgd;simp only[c_]at hgd;exact hgd.1
   have hlen:(iT tl[0]).length=cols.length:=by unfold dZ at hgd;simp only[c_,decide_eq_true_eq]at hgd;exact hgd.2
   have hrow:=ny tl[0] cols.length hpz z4 hro;rw[decide_eq_true hlen]at hrow;have htk:(tl.map gJ).take (0+1)=(tl.map gJ).take 0++ [gJ tl[0]]:=by
    rw[n_ (by rw[b_];exact hlk),y_]
   repeat' (first|(with_reducible first|refine bW ?_|refine bn ?_|refine bG ?_|refine bH ?_|refine bZ ?_|refine dQ ?_|refine bC ?_|refine bU ?_|refine aO ?_|refine aY ?_|refine bF ?_|refine aW ?_|refine bD ?_|refine aQ ?_|refine aV ?_)|((with_reducible refine aX ?_ ?_);rfl)|((with_reducible refine aZ ?_ ?_);rfl)|((with_reducible refine bg ?_ ?_);rfl)|(with_reducible (refine bf rfl ?_ ?_);all_goals(intro hb;have hb':=hb;(try simp only[pkC]at hb');try(exfalso;omega)))|(refine rg_ ?_;intro K hK)|(refine hq_ ?_;clear hK K)|refine ca_ ?_ ?_|(refine cg_ ?_;first|(refine vX hrow rfl (by simp) ?_ ?_))|((with_reducible refine dP ?_);simp(disch:=first|decide|omega) only[↓pkS,pkW,pkA,undef,i_,j_,m_,bJ,dS,lvD,dU,lcD,lvK,lcK,bI,dn,bK,ex,St.put,St.ev,kav,gdA,opI,dK,dW,dD,dR,dV,AV.toD,AC.toD,AV.nw,AC.nw,AC.one,a_,aG,ak,aB,aF,aN,aH,if_true,if_false,d_,dF,D.one,D.ones,D.sz,D.szs,g_,h_,k_,l_,reduceIte,pkN,aJ,aI,aK,GRow.ay,GRow.aj,GRow.au,GRow.el,aC,aA,hg,AV.shift,AC.shift,iG])|(first|(with_reducible rfl)|(with_reducible refine bV ?_;kernel_rfl)|exact aA _|exact aC _|exact el_ln _|exact el_tk _ _|exact el_td _ _ _|omega|(simp;done)|(simp;omega))|((with_reducible refine cu ?_);simp[bM,dM,dJ,dY,AC.toD,aG,ak,aB,aF,a_,bP,aU,bT,bQ,cO,aS,dh,cZ,eF,eG,aJ,aI,aK,GRow.ay,GRow.aj,GRow.au,GRow.el,aC,aA,hg,AV.shift,AC.shift,iG];first|done|rfl))
   all_goals first
    |(simp only[b_,u_,e_,o_,z_];omega)
    | (refine Et (1,some (0)) [0,3] ?_ ⟨show 1≤tl.length by omega,D_ _⟩ (show tl.length - (1)<tl.length - 0 by omega)
       simp only[sD,wF,qF,qJ,AV.ren,AC.ren,AV.fits,AC.fits,FB,eX,htk];simp[AV.fits,AC.fits,AC.ren,gJ, -r_])
  have htl0:tl= []:=A_ (by omega);have hz0:tl.length=0:=by omega
  have hd:=hval (.sl []) (by rw[htl,htl0];rfl) (by rw[htl0];rfl);rw[hD]at hd
  repeat' (first|(with_reducible first|refine bW ?_|refine bn ?_|refine bG ?_|refine bH ?_|refine bZ ?_|refine dQ ?_|refine bC ?_|refine bU ?_|refine aO ?_|refine aY ?_|refine bF ?_|refine aW ?_|refine bD ?_|refine aQ ?_|refine aV ?_)|((with_reducible refine aX ?_ ?_);rfl)|((with_reducible refine aZ ?_ ?_);rfl)|((with_reducible refine bg ?_ ?_);rfl)|(with_reducible (refine bf rfl ?_ ?_);all_goals(intro hb;have hb':=hb;(try simp only[pkC]at hb');try(exfalso;omega)))|(refine rg_ ?_;intro K hK)|(refine hq_ ?_;clear hK K)|refine ca_ ?_ ?_|((with_reducible refine DU ?_);refine rV hd trivial ?_ ?_)|((with_reducible refine dP ?_);simp(disch:=first|decide|omega) only[↓pkS,pkW,pkA,undef,i_,j_,m_,bJ,dS,lvD,dU,lcD,lvK,lcK,bI,dn,bK,ex,St.put,St.ev,kav,gdA,opI,dK,dW,dD,dR,dV,AV.toD,AC.toD,AV.nw,AC.nw,AC.one,a_,aG,ak,aB,aF,aN,aH,if_true,if_false,d_,dF,D.one,D.ones,D.sz,D.szs,g_,h_,k_,l_,reduceIte,pkN,aJ,aI,aK,GRow.ay,GRow.aj,GRow.au,GRow.el,aC,aA,hz0,gG,eY,fO,iy])|(first|(with_reducible rfl)|(with_reducible refine bV ?_;kernel_rfl)|exact aA _|exact aC _|exact el_ln _|exact el_tk _ _|exact el_td _ _ _|omega|(simp;done)|(simp;omega))|((with_reducible refine cu ?_);simp[bM,dM,dJ,dY,AC.toD,aG,ak,aB,aF,a_,bP,aU,bT,bQ,cO,aS,dh,cZ,eF,eG,aJ,aI,aK,GRow.ay,GRow.aj,GRow.au,GRow.el,aC,aA,hz0,gG,eY,fO,iy];first|done|rfl))
  exact dX ⟨[0],by simp,⟨⟨_,rfl,by rw[hcols],Or.inr (Bq _)⟩,trivial⟩,⟨0,_,rfl,rfl,by simp[oq,zJ]⟩,⟨_,rfl,rfl,trivial⟩⟩
 ·simp only at hk hk0;simp only[FB,eX];by_cases hlk:k<tl.length
  ·have hg:idx (tl.map ls) (some ((k:Nat):Int))=some (ls tl[k]):=jH ls tl hlk;have hpz:=htz _ (f_ hlk);have hgd:=og hrg _ (f_ hlk);have hro:iP tl[k]=true:=by unfold dZ at hgd;simp only[c_]at hgd;exact hgd.1
   have hlen:(iT tl[k]).length=cols.length:=by unfold dZ at hgd;simp only[c_,decide_eq_true_eq]at hgd;exact hgd.2
   have hrow:=ny tl[k] cols.length hpz z4 hro;rw[decide_eq_true hlen]at hrow;have htk:(tl.map gJ).take (k+1)=(tl.map gJ).take k++ [gJ tl[k]]:=by
    rw[n_ (by rw[b_];exact hlk),y_]
   repeat' (first|(with_reducible first|refine bW ?_|refine bn ?_|refine bG ?_|refine bH ?_|refine bZ ?_|refine dQ ?_|refine bC ?_|refine bU ?_|refine aO ?_|refine aY ?_|refine bF ?_|refine aW ?_|refine bD ?_|refine aQ ?_|refine aV ?_)|((with_reducible refine aX ?_ ?_);rfl)|((with_reducible refine aZ ?_ ?_);rfl)|((with_reducible refine bg ?_ ?_);rfl)|(with_reducible (refine bf rfl ?_ ?_);all_goals(intro hb;have hb':=hb;(try simp only[pkC]at hb');try(exfalso;omega)))|(refine rg_ ?_;intro K hK)|(refine hq_ ?_;clear hK K)|refine ca_ ?_ ?_|(refine cg_ ?_;first|(refine vX hrow rfl (by simp) ?_ ?_))|((with_reducible refine dP ?_);simp(disch:=first|decide|omega) only[↓pkS,pkW,pkA,undef,i_,j_,m_,bJ,dS,lvD,dU,lcD,lvK,lcK,bI,dn,bK,ex,St.put,St.ev,kav,gdA,opI,dK,dW,dD,dR,dV,AV.toD,AC.toD,AV.nw,AC.nw,AC.one,a_,aG,ak,aB,aF,aN,aH,if_true,if_false,d_,dF,D.one,D.ones,D.sz,D.szs,g_,h_,k_,l_,reduceIte,pkN,aJ,aI,aK,GRow.ay,GRow.aj,GRow.au,GRow.el,aC,aA,hg,AV.shift,AC.shift,iG])|(first|(with_reducible rfl)|(with_reducible refine bV ?_;kernel_rfl)|exact aA _|exact aC _|exact el_ln _|exact el_tk _ _|exact el_td _ _ _|omega|(simp;done)|(simp;omega))|((with_reducible refine cu ?_);simp[bM,dM,dJ,dY,AC.toD,aG,ak,aB,aF,a_,bP,aU,bT,bQ,cO,aS,dh,cZ,eF,eG,aJ,aI,aK,GRow.ay,GRow.aj,GRow.au,GRow.el,aC,aA,hg,AV.shift,AC.shift,iG];first|done|rfl))
   all_goals first
    |(simp only[b_,u_,e_,o_,z_];omega)
    | (refine Et (k+1,some (v+1)) [0,1] ?_ ⟨show k+1≤tl.length by omega,D_ _⟩ (show tl.length - (k+1)<tl.length - k by omega)
       simp only[sD,wF,qF,qJ,AV.ren,AC.ren,AV.fits,AC.fits,FB,eX,htk];simp[AV.fits,AC.fits,AC.ren,gJ, -r_])
  exact absurd hk0 (by have:tl= []:=htl.symm.trans hT0;rw[this]at hk;simp at hk;omega)
theorem Bz{d:D}{u:Value}{w:World}{e:Ending}{w':World}(h:wB d u w e w'):wB d.fix u w e w':=by
 obtain⟨fp,cs,h1,h2,h3,h4⟩:=h;exact⟨fp,cs,h1,Ju h2,h3,h4⟩
def je(s:ByteArray):GVal:=if isD s=true then qN s else .mk 0 0 0 ⟨#[]⟩ [] [] []
theorem FP(s:ByteArray):(D.agg [.leaf (.int .i64 5),.leaf (.int .i64 0),.leaf (.int .i64 0),.leaf (.string ⟨#[]⟩),.sl [],.sl ((gB s).map ls),.sl ((fA s).map gJ)]).fix=(qN s).toD:=by
 rw[GVal.dI];show D.agg [_,_,_,_,_,.sl (D.nG ((gB s).map ls)),.sl (D.nG ((fA s).map gJ))]=_;rw[qw,nI];rfl
theorem nU(s:ByteArray)(hs:s.size≤1048576)(w:World)(ht:kT w):Calls Tryz.prog 7 #[.string s] w (wB (je s).toD (.bool (isD s)) w):=by
 have hr:Rds w [ls s] [.string s]:=⟨uw _,trivial⟩
 cases hD:isD s with
 | false=>
   have he:je s= .mk 0 0 0 ⟨#[]⟩ [] [] []:=by unfold je;rw[hD];rfl
   rw[he];refine(uD s hs hD w _ hr ht).mono ?_;rintro e w' ⟨v,h1,⟨us,rfl,h3⟩,h4⟩
   match us,h3 with
   | [a,b],⟨⟨xs,h0,h5⟩,⟨h6,_⟩,_⟩=>
     subst h0;obtain rfl:b=_:=h6;refine Bz (d:= .agg [.leaf (.int .i64 0),.leaf (.int .i64 0),.leaf (.int .i64 0),.leaf (.string ⟨#[]⟩),.leaf (.slice none 0 0),.leaf (.slice none 0 0),.leaf (.slice none 0 0)]) ⟨[],xs,h1, ?_,gV.nil,h4⟩
     match xs,h5 with
     | [x0,x1,x2,x3,x4,x5,x6],⟨h0,h1,h2,h3,h4,h5,h6,_⟩=>
       obtain rfl:x0=_:=h0;obtain rfl:x1=_:=h1;obtain rfl:x2=_:=h2;obtain rfl:x3=_:=h3;obtain rfl:x4=_:=h4;obtain rfl:x5=_:=h5;obtain rfl:x6=_:=h6;rw[ji];simp[iC,iY]
 | true=>
   have he:je s=qN s:=by unfold je;rw[if_pos hD]
   rw[he,← FP];by_cases hT:fA s= []
   ·rw[hT];exact(GH (tJ s hs hD hT) (dd:= [.leaf (.int .i64 5),.leaf (.int .i64 0),.leaf (.int .i64 0),.leaf (.string ⟨#[]⟩),.sl [],.sl ((gB s).map ls),.sl []]) rfl (by simp[lcK]) (by intro k hk;simp[lcK]at hk;subst hk;exact⟨rfl,Or.inl rfl⟩) hr ht).mono fun e w' h=>by
     have h2:=Bz h;have e1:(D.agg [.leaf (.int .i64 5),.leaf (.int .i64 0),.leaf (.int .i64 0),.leaf (.string ⟨#[]⟩),.sl [],.sl ((gB s).map ls),.sl []]).fix=(D.agg [.leaf (.int .i64 5),.leaf (.int .i64 0),.leaf (.int .i64 0),.leaf (.string ⟨#[]⟩),.sl [],.sl ((gB s).map ls),.sl (([]:List ByteArray).map gJ)]).fix:=by
      simp only[D.fix,D.nG,t_,Qi]
     rw[e1]at h2;exact h2
   ·exact(GH (tH s hs hD hT) (dd:= [.leaf (.int .i64 5),.leaf (.int .i64 0),.leaf (.int .i64 0),.leaf (.string ⟨#[]⟩),.sl [],.sl ((gB s).map ls),.sl ((fA s).map gJ)]) rfl (by simp[lcK]) (by intro k hk;simp[lcK]at hk;rcases hk with rfl|rfl<;>exact⟨rfl,Or.inl rfl⟩) hr ht).mono fun e w' h=>Bz h
theorem BL :∀(l:List Int),D.cnts (l.map li)=l.length
 | []=>rfl
 |n::l=>by rw[s_,D.cnts,BL l,e_];simp[li,D.cnt];omega
theorem BJ :∀(l:List ByteArray),D.cnts (l.map ls)=l.length
 | []=>rfl
 |n::l=>by rw[s_,D.cnts,BJ l,e_];simp[ls,D.cnt];omega
theorem BK{c:Nat}:∀(l:List ByteArray),(∀p∈l,(iT p).length=c)→D.cnts ((l.map lC).map GRow.toD)=c*l.length
 | [],_=>rfl
 | p::l,h=>by
   have h1:((lC p).toD).cnt=c:=by
    show(D.agg [.sl ((iT p).map li),.sl (([]:List GOrigin).map GOrigin.toD)]).cnt=c;simp only[D.cnt,D.cnts,BL,t_];rw[h p (by simp)];omega
   rw[s_,s_,D.cnts,BK l (fun x hx=>h x (by simp[hx])),h1,e_,Nat.mul_add];omega
theorem Ez(s:ByteArray):(je s).toD.acnt≤64:=by
 unfold je;split
 ·next hD=>
  unfold isD jr inR at hD;simp only[c_,decide_eq_true_eq]at hD;obtain⟨h1,⟨h2,⟨h3,h4⟩,h5⟩,h6⟩:=hD;have hc:=BK (c:=(gB s).length) (fA s) (fun p hp=>by
   have:=og h1 p hp;unfold dZ at this;simp only[c_,decide_eq_true_eq]at this;exact this.2)
  rw[GVal.dI];show D.acnt (.agg [_,_,_,_,.sl (([]:List GVal).map GVal.toD),.sl ((gB s).map ls),.sl (((fA s).map lC).map GRow.toD)])≤64;have e1:=BJ (gB s);rw[D.acnt];simp only[D.qK,D.acnt,D.cnts,t_];rw[hc,e1];have:(gB s).length*(fA s).length≤4*12:=Nat.mul_le_mul (by omega) h6;show 0+(0+(0+(0+(0+((gB s).length+((gB s).length*(fA s).length+0))))))≤64;omega
 ·decide
end Go.Proofs.YtfengkmaphbofaaGreatDoor
