/-
  Texts joined: PData.
-/
import Derived.Test.YtfengkmaphbofaaGreatDoorJN
import Derived.Test.YtfengkmaphbofaaGreatDoorJO
set_option maxHeartbeats 16000000
set_option linter.unusedSimpArgs false
set_option linter.unusedVariables false
namespace Go.Proofs.YtfengkmaphbofaaGreatDoor
open Go.RowKit
open Value renaming oneCell'→a_
open Bool renaming false_eq_true→b_,and_eq_true→x_
open List renaming flatMap_cons→c_,flatMap_nil→d_,length_map→g_,append_nil→h_,length_cons→k_,getElem_mem→l_,getD_eq_getElem?_getD→m_,getElem?_eq_getElem→n_,take_succ_eq_append_getElem→o_,map_cons→p_,mem_map→q_,take_append_getElem→r_,length_nil→s_,take_of_length_le→v_,length_append→w_,getElem_map→y_,length_take→z_
open Nat renaming reduceLeDiff→e_,reduceEqDiff→f_,reduceAdd→i_,reduceSub→j_,le_refl→t_,zero_le→u_,succ_pos→A_
attribute [local irreducible] sw sd sn
def Qi :Value→D| .slice none 0 0=> .sl []|v=> .leaf v
mutual
def D.fix :D→D
 | .leaf v=>Qi v
 | .sl l=> .sl (D.nG l)
 | .agg l=> .agg (D.nG l)
def D.nG :List D→List D
 | []=> []
 |d::l=>d.fix::D.nG l
end
theorem gG(l:List D):(D.agg l).flat=D.iQ l:=by rw[D.flat]
theorem eY(d:D)(l:List D):D.iQ (d::l)=d.flat++D.iQ l:=by rw[D.iQ]
theorem fO :D.iQ []= []:=by rw[D.iQ]
theorem iy(l:List D):(D.agg l).isAgg=true:=rfl
theorem Bv :∀(l:List D),(D.nG l).length=l.length
 | []=>rfl
 |d::l=>by rw[D.nG,k_,k_,Bv l]
theorem PG(w:World):R w (.sl []) [] [.slice none 0 0]:=by
 rw[R];exact⟨none,0,rfl,t_ _,u_ _,Or.inl ⟨rfl,rfl⟩⟩
theorem RU{w:World}{v:Value}{fp:List Nat}{cs:List Value}(h:R w (.leaf v) fp cs):R w (Qi v) fp cs:=by
 unfold Qi;split
 ·obtain⟨rfl,rfl⟩:=h;exact PG w
 ·exact h
mutual
theorem Ju{w:World}:∀{d:D} {fp:List Nat} {cs:List Value},R w d fp cs→R w d.fix fp cs
 | .leaf v,_,_,h=>by rw[D.fix];exact RU h
 | .sl l,fp,cs,h=>by
   rw[D.fix];rw[R]at h⊢;obtain⟨A,cap,rfl,h1,h2,h3⟩:=h;refine⟨A,cap,by rw[Bv],by rw[Bv];exact h1,h2, ?_⟩;rcases h3 with⟨rfl,rfl⟩|⟨b,o,fp',cs',g1,g2,g3,g4,g5⟩
   ·exact Or.inl ⟨rfl,rfl⟩
   ·exact Or.inr ⟨b,o,fp',cs',g1,g2,g3,zD g4,g5⟩
 | .agg l,fp,cs,h=>by
   rw[D.fix,R];rw[R]at h;exact zD h
theorem zD{w:World}:∀{l:List D} {fp:List Nat} {cs:List Value},Rs w l fp cs→Rs w (D.nG l) fp cs
 | [],_,_,h=>h
 | d::l,_,_,h=>by
   obtain⟨f1,f2,c1,c2,rfl,rfl,h1,h2⟩:=h;exact⟨f1,f2,c1,c2,rfl,rfl,Ju h1,zD h2⟩
end
theorem SQ{w:World}{l:List D}{vs:List Value}(h:Rds w [.agg l] vs):Rds w [.agg (D.nG l)] vs:=by
 obtain⟨v,rfl,h1⟩:=Ru h;obtain⟨fp,cs,rfl,h2⟩:=TS rfl h1;refine⟨MG rfl (fp:=fp) (cs:=cs) ?_,trivial⟩;rw[R]at h2⊢;exact zD h2
theorem dN.Qj{P:Program}{f:Nat}{l:List D}{r:AV}(h:dN P f [.agg (D.nG l)] r):dN P f [.agg l] r:=fun w vs h1 h2=>h w vs (SQ h1) h2
theorem KW :∀(l:List Int),D.nG (l.map li)=l.map li
 | []=>rfl
 |n::l=>by rw[p_,D.nG,KW l];rfl
theorem qw :∀(l:List ByteArray),D.nG (l.map ls)=l.map ls
 | []=>rfl
 |n::l=>by rw[p_,D.nG,qw l];rfl
def gJ(p:ByteArray):D:= .agg [.sl ((iT p).map li),.sl []]
def lC(p:ByteArray):GRow:=⟨iT p,[]⟩
theorem Ov(p:ByteArray):(gJ p).fix=(lC p).toD:=by
 unfold gJ;rw[D.fix,D.nG,D.fix,KW];rfl
theorem nI :∀(l:List ByteArray),D.nG (l.map gJ)=(l.map lC).map GRow.toD
 | []=>rfl
 |p::l=>by rw[p_,D.nG,Ov,nI l];rfl
def dZ(c:Nat)(p:ByteArray):Bool:=iP p && decide ((iT p).length=c)
def headD(s:ByteArray):ByteArray:=(jO s).getD 0 ⟨#[]⟩
def fA(s:ByteArray):List ByteArray:=(jO s).drop 1
def gB(s:ByteArray):List ByteArray:=cut spB (headD s)
def qN(s:ByteArray):GVal:= .mk 5 0 0 ⟨#[]⟩ [] (gB s) ((fA s).map lC)
def isD(s:ByteArray):Bool:=jU (dZ (gB s).length) (fA s) && (jr (gB s) && decide ((fA s).length≤12))
theorem D6{α:Type}{p:α→Bool}{l:List α}(h:∀x∈l,p x=true):jU p l=true:=by
 unfold jU
 suffices∀n,n≤l.length→jm (pAt p l) n=true from this _ (t_ _)
 intro n
 induction n with
 |zero=>intro _;rfl
 |succ n ih=>intro hn;exact fJ (ih (by omega)) ((jy p (by omega)).trans (h _ (l_ _)))
theorem Ou{p:ByteArray}(h:iP p=true):jU oC (iT p)=true:=by
 refine D6 fun n hn=> ?_
 unfold iT at hn;obtain⟨w,hw,rfl⟩:=q_.1 hn;have hk:=og h w hw;have:=TU (-1000000000) 1000000000 w hk;unfold jw oC inR;simp only[x_,decide_eq_true_eq];exact this
theorem nP{s:ByteArray}(h:jU (dZ (gB s).length) (fA s)=true):kQ (qN s)=(jr (gB s) && decide ((fA s).length≤12)):=by
 have hr:jU (oz (gB s).length) ((fA s).map lC)=true:=by
  refine D6 fun r hr=> ?_
  obtain⟨p,hp,rfl⟩:=q_.1 hr;have hg:=og h p hp;unfold dZ at hg;simp only[x_,decide_eq_true_eq]at hg;exact wP hg.2 rfl (Ou hg.1)
 show((0:Int)==0 && ((0:Int)==0 && (((⟨#[]⟩:ByteArray).toList==(⟨#[]⟩:ByteArray).toList) && (decide (([]:List GVal).length=0) && qm (qN s)))))=_;have ht:qm (qN s)=(jr (gB s) && (decide (((fA s).map lC).length≤12) && jU (oz (gB s).length) ((fA s).map lC))):=rfl;rw[ht,hr,g_];simp
structure SzD (s:ByteArray):Prop where
 parts:(jO s).length≤1048577
 pos:0<(jO s).length
 piece:∀p∈jO s,p.size≤1048576
 cols:(gB s).length≤1048577
 tl:(fA s).length=(jO s).length - 1
theorem N8{s:ByteArray}(hs:s.size≤1048576):SzD s:=by
 have h1:0<(jO s).length:=List.length_pos_iff.2 (Uk _ _);have h2:∀p∈jO s,p.size≤1048576:=fun p hp=>Nat.le_trans (jC (sep:=⟨#[59,32]⟩) (show 1≤2 by decide) hp) hs
 have h3:headD s∈jO s:=by
  unfold headD;rw[m_,n_ h1];exact l_ h1
 exact⟨by have:=lH ⟨#[59,32]⟩ s (show 1≤2 by decide);unfold jO;omega,h1,h2,by have:=lH spB (headD s) (by decide);have:=h2 _ h3;unfold gB;omega,by unfold fA;rw[List.length_drop]⟩
def AU :IC:=(zd_ [zz_ 2 (.alloc [(.int .i64 0),(.int .i64 0),(.int .i64 0),(.string ⟨#[]⟩),(.slice none 0 0),(.slice none 0 0),(.slice none 0 0)]),zj_ 3 false] (zd_ [zw_ 10 0,zz_ 11 (.call 35 [(.t 10),(.k (.string ⟨#[59,32]⟩))]),zw_ 4 11] (zd_ [zw_ 12 4,zz_ 13 (.iad 1 (.t 12) (.k (.int .i64 0))),zs_ 14 1 13,zz_ 15 (.call 36 [(.t 14),(.k (.int .u8 32))]),zz_ 16 (.bld [(.int .i64 0),(.int .i64 0),(.int .i64 0),(.string ⟨#[]⟩),(.slice none 0 0),(.slice none 0 0),(.slice none 0 0)] [(0,1,(.k (.int .i64 5))),(5,1,(.t 15))]),zz_ 5 (.alloc [(.int .i64 0),(.int .i64 0),(.int .i64 0),(.string ⟨#[]⟩),(.slice none 0 0),(.slice none 0 0),(.slice none 0 0)]),⟨none,none,.store 7 (.t 5) (.t 16)⟩] (.seq (zd_ [zw_ 17 4,zz_ 18 (.lsl 1 (.t 17) (some (.k (.int .i64 1))) none),zf_ 19 false 18,zk_ 20 0] (.block 0 (.loop (zd_ [zl_ 21 .lss 20 19] (.seq (.cond (.t 21) .skip (.exit 0)) (.seq (.block 1 (zd_ [ze_ 22 1 18 20,zs_ 23 1 22,zw_ 7 23] (zd_ [zw_ 25 7,zt_ 26 5 5,zs_ 27 1 26,zf_ 28 false 27,zp_ 29 37 25 28,zw_ 24 29,zz_ 30 (.ext 0 (.t 24)),zz_ 31 (.ext 1 (.t 24)),zw_ 8 30,zw_ 9 31] (.seq (zd_ [zw_ 32 9,zz_ 33 (.not (.t 32))] (.cond (.t 33) (zd_ [zz_ 34 (.bld [(.int .i64 0),(.int .i64 0),(.int .i64 0),(.string ⟨#[]⟩),(.slice none 0 0),(.slice none 0 0),(.slice none 0 0)] []),⟨none,none,.store 7 (.t 2) (.t 34)⟩,zj_ 3 false] .ret) .skip)) (.reg false [zt_ 35 6 5,zs_ 36 1 35,zw_ 37 8,zz_ 38 (.bld [(.slice none 0 0),(.slice none 0 0)] [(0,1,(.t 37))]),zz_ 39 (.brow false 60 2 1 false [(.t 38)]),zz_ 40 (.app 60 2 (.t 36) (.t 39)),zt_ 41 6 5,⟨none,none,.store 1 (.t 41) (.t 40)⟩]))))) (.reg false [zm_ 42 .add 20 1,zw_ 20 42]))))))) (.seq (zd_ [zr_ 43 7 5,zq_ 44 38 43,zz_ 45 (.not (.t 44))] (.cond (.t 45) (zd_ [zz_ 46 (.bld [(.int .i64 0),(.int .i64 0),(.int .i64 0),(.string ⟨#[]⟩),(.slice none 0 0),(.slice none 0 0),(.slice none 0 0)] []),⟨none,none,.store 7 (.t 2) (.t 46)⟩,zj_ 3 false] .ret) .skip)) (zd_ [zr_ 47 7 5,⟨none,none,.store 7 (.t 2) (.t 47)⟩,zj_ 3 true] .ret))))))
theorem C9 :dG Tryz.prog (Tryz.f7.body.getD .skip)=some AU:=by kernel_rfl
theorem uD(s:ByteArray)(hs:s.size≤1048576)(hD:isD s=false):dN Tryz.prog 7 [ls s] (.tup [(true,[.raw (.int .i64 0),.raw (.int .i64 0),.raw (.int .i64 0),.raw (.string ⟨#[]⟩),.raw (.slice none 0 0),.raw (.slice none 0 0),.raw (.slice none 0 0)]),(false,[.raw (.bool false)])]):=by
 refine kF (fn:=Tryz.f7) (r:= .cell 2 26) (q:= .tmp 3) (hc:=C9) (h:= ?_);unfold AU;refine zb_ ?_;change AWP _ _ _ (st0 48 _);simp only[undef,stS,st0,stN,D.av,D.avN,cO,aS,dh,cZ,aK,eU,aJ,aI,p_,List.map_nil,List.replicate,List.cons_append,List.nil_append,k_,s_,i_,j_];have hz:=N8 hs;obtain⟨ps,hps⟩:∃l,jO s=l:=⟨_,rfl⟩
 obtain⟨cols,hcols⟩:∃l,gB s=l:=⟨_,rfl⟩
 obtain⟨tl,htl⟩:∃l,fA s=l:=⟨_,rfl⟩
 obtain⟨z1,z2,z3,z4,z5⟩:=hz;rw[hps]at z1 z2 z3 z5;rw[hcols]at z4;rw[htl]at z5;have htd:tl=ps.drop 1:=by rw[← htl,← hps];rfl
 have htz:∀p∈tl,p.size≤1048576:=fun p hp=>z3 p (by rw[htd]at hp;exact List.mem_of_mem_drop hp)
 obtain⟨hd,hhd⟩:∃h,headD s=h:=⟨_,rfl⟩
 have hhm:hd∈ps:=by
  rw[← hhd];unfold headD;rw[hps,m_,n_ z2];exact l_ z2
 have hi0:idx (ps.map ls) (some 0)=some (ls hd):=by
  have:=jH ls ps (k:=0) z2;rw[show((0:Nat):Int)=0 from rfl]at this;rw[this,← hhd];unfold headD;rw[hps,m_,n_ z2];rfl
 have hcc:cut spB hd=cols:=by rw[← hcols,← hhd];rfl
 have hT:((ps.map ls).take ps.length).drop 1=tl.map ls:=by rw[v_ (by rw[g_];exact t_ _),← List.map_drop,htd]
 have hsb:kL (some 1) none ps.length=some (1,ps.length):=qQ (by omega);have hsp:dN Tryz.prog 35 [ls s,ls ⟨#[59,32]⟩] (.c false [.sl true (ps.map ls)]):=by
  rw[← hps];exact uX s ⟨#[59,32]⟩ hs (show 1≤2 by decide)
 have hspc:dN Tryz.prog 36 [ls hd,.leaf (.int .u8 32)] (.c false [.sl true (cols.map ls)]):=by
  rw[← hcc];exact jQ hd 32 (z3 hd hhm)
 repeat' (first|(with_reducible first|refine bW ?_|refine bn ?_|refine bG ?_|refine bH ?_|refine bZ ?_|refine dQ ?_|refine bC ?_|refine bU ?_|refine aO ?_|refine aY ?_|refine bF ?_|refine aW ?_|refine bD ?_|refine aQ ?_|refine aV ?_)|((with_reducible refine aX ?_ ?_);rfl)|((with_reducible refine aZ ?_ ?_);rfl)|((with_reducible refine bg ?_ ?_);rfl)|(with_reducible (refine bf rfl ?_ ?_);all_goals(intro hb;have hb':=hb;(try simp only[pkC]at hb');try(exfalso;omega)))|(refine rg_ ?_;intro K hK)|(refine hq_ ?_;clear hK K)|refine ca_ ?_ ?_|(refine cg_ ?_;first|refine cT_ hsp ?_|refine cT_ hspc ?_)|((with_reducible refine dP ?_);simp(disch:=first|decide|omega) only[↓pkS,pkW,pkA,undef,c_,d_,h_,bJ,dS,lvD,dU,lcD,lvK,lcK,bI,dn,bK,ex,St.put,St.ev,kav,gdA,opI,dK,dW,dD,dR,dV,AV.toD,AC.toD,AV.nw,AC.nw,AC.one,a_,aG,ak,aB,aF,aN,aH,if_true,if_false,b_,dF,D.one,D.ones,D.sz,D.szs,i_,j_,e_,f_,reduceIte,pkN,aJ,aI,aK,GRow.ay,GRow.aj,GRow.au,GRow.el,aC,aA,hi0,hT,hsb])|(first|(with_reducible rfl)|(with_reducible refine bV ?_;kernel_rfl)|exact aA _|exact aC _|exact el_ln _|exact el_tk _ _|exact el_td _ _ _|omega|(simp;done)|(simp;omega))|((with_reducible refine cu ?_);simp[bM,dM,dJ,dY,AC.toD,aG,ak,aB,aF,a_,bP,aU,bT,bQ,cO,aS,dh,cZ,eF,eG,aJ,aI,aK,GRow.ay,GRow.aj,GRow.au,GRow.el,aC,aA,hi0,hT,hsb];first|done|rfl))
 clear hsp hspc;refine fQ (X:=Nat×Option Nat) (fun q=> [.d,.d,.k,.d,.d,.k,.d,.d,.d,.d,.d,.d,.d,.d,.d,.d,.d,.d,.k,.k,.v (.c false [.raw (.int .i64 (q.1:Nat))])]) (fun q=>match q.2 with|none=> []|some w=> [⟨(tl.map gJ).take q.1,60,2,w,⟨true,false⟩⟩]) (fun q bs=> [[.raw (.int .i64 0),.raw (.int .i64 0),.raw (.int .i64 0),.raw (.string ⟨#[]⟩),.raw (.slice none 0 0),.raw (.slice none 0 0),.raw (.slice none 0 0)],[.raw (.int .i64 5),.raw (.int .i64 0),.raw (.int .i64 0),.raw (.string ⟨#[]⟩),.raw (.slice none 0 0),.sl true (cols.map ls),(match q.2 with|none=> .raw (.slice none 0 0)|some w=> .own 0 w)]]) (fun q=>q.1≤tl.length∧jm (pAt (dZ cols.length) tl) q.1=true∧(match q.2 with|none=>q.1=0|some _=>0<q.1)) (fun q=>tl.length - q.1) (0,none) ⟨u_ _,rfl,rfl⟩ ?_ ?_
 ·simp[fB,iE,fC,fD,AV.fits,AC.fits,FB,eX]
 have hsm:(qN s).small:=by
  refine⟨by show(gB s).length≤_;rw[hcols];omega,fun w hw=> ?_,by show((fA s).map lC).length≤_;rw[g_,htl];omega,fun r hr=> ?_,fun r hr=> ?_⟩
  ·have hw2:w∈cut spB (headD s):=hw;have:=jC (sep:=spB) (by decide) hw2;have:=z3 hd hhm;rw[← hhd]at this;omega
  ·obtain⟨p,hp,rfl⟩:=q_.1 (show r∈(fA s).map lC from hr);rw[htl]at hp;show(iT p).length≤_;unfold iT;rw[g_];have h1:=htz p hp;have:=lH spB p (by decide);omega
  ·obtain⟨p,hp,rfl⟩:=q_.1 (show r∈(fA s).map lC from hr);exact u_ _
 have hval:∀X:D,X.fix= .sl (((fA s).map lC).map GRow.toD)→jU (dZ cols.length) tl=true→dN Tryz.prog 38 [.agg [li 5,li 0,li 0,ls ⟨#[]⟩,.sl [],.sl (cols.map ls),X]] (.c false [.raw (.bool (isD s))]):=fun X hX hA=>by
  have h:=qM (qN s) hsm rfl (u_ _);have hA2:jU (dZ (gB s).length) (fA s)=true:=by rw[hcols,htl];exact hA
  rw[nP hA2,GVal.dI]at h;have he:isD s=(jr (gB s) && decide ((fA s).length≤12)):=by unfold isD;rw[hA2];rfl
  rw[he];refine dN.Qj ?_;show dN _ _ [.agg [li 5,li 0,li 0,ls ⟨#[]⟩,.sl [],.sl (D.nG (cols.map ls)),X.fix]] _;rw[hX,qw,← hcols];exact h
 rintro⟨k,_|v⟩ ⟨hk,hall,hk0⟩
 ·simp only at hk hall hk0;subst hk0;simp only[FB,eX];by_cases hlk:0<tl.length
  ·have hg:idx (tl.map ls) (some ((0:Nat):Int))=some (ls tl[0]):=jH ls tl hlk;have hpz:=htz _ (l_ hlk);cases hro:iP tl[0]with
   | false=>
     have hrow:=vg tl[0] cols.length hpz z4 hro;have hr:isD s=false:=by unfold isD;rw[hcols,htl,gq hlk (show dZ cols.length tl[0]=false by unfold dZ;rw[hro];rfl)];rfl
     repeat' (first|(with_reducible first|refine bW ?_|refine bn ?_|refine bG ?_|refine bH ?_|refine bZ ?_|refine dQ ?_|refine bC ?_|refine bU ?_|refine aO ?_|refine aY ?_|refine bF ?_|refine aW ?_|refine bD ?_|refine aQ ?_|refine aV ?_)|((with_reducible refine aX ?_ ?_);rfl)|((with_reducible refine aZ ?_ ?_);rfl)|((with_reducible refine bg ?_ ?_);rfl)|(with_reducible (refine bf rfl ?_ ?_);all_goals(intro hb;have hb':=hb;(try simp only[pkC]at hb');try(exfalso;omega)))|(refine rg_ ?_;intro K hK)|(refine hq_ ?_;clear hK K)|refine ca_ ?_ ?_|(refine cg_ ?_;first|refine cT_ hrow ?_)|((with_reducible refine dP ?_);simp(disch:=first|decide|omega) only[↓pkS,pkW,pkA,undef,c_,d_,h_,bJ,dS,lvD,dU,lcD,lvK,lcK,bI,dn,bK,ex,St.put,St.ev,kav,gdA,opI,dK,dW,dD,dR,dV,AV.toD,AC.toD,AV.nw,AC.nw,AC.one,a_,aG,ak,aB,aF,aN,aH,if_true,if_false,b_,dF,D.one,D.ones,D.sz,D.szs,i_,j_,e_,f_,reduceIte,pkN,aJ,aI,aK,GRow.ay,GRow.aj,GRow.au,GRow.el,aC,aA,hg])|(first|(with_reducible rfl)|(with_reducible refine bV ?_;kernel_rfl)|exact aA _|exact aC _|exact el_ln _|exact el_tk _ _|exact el_td _ _ _|omega|(simp;done)|(simp;omega))|((with_reducible refine cu ?_);simp[bM,dM,dJ,dY,AC.toD,aG,ak,aB,aF,a_,bP,aU,bT,bQ,cO,aS,dh,cZ,eF,eG,aJ,aI,aK,GRow.ay,GRow.aj,GRow.au,GRow.el,aC,aA,hg];first|done|rfl))
     exact dX ⟨⟨0,_,rfl,rfl,by simp[iJ,kK]⟩,⟨_,rfl,rfl,trivial⟩⟩
   | true=>
     have hrow:=xZ tl[0] cols.length hpz z4 hro;by_cases hlen:(iT tl[0]).length=cols.length
     case neg=>
      rw[decide_eq_false hlen]at hrow;have hr:isD s=false:=by unfold isD;rw[hcols,htl,gq hlk (show dZ cols.length tl[0]=false by unfold dZ;rw[hro,decide_eq_false hlen];rfl)];rfl
      repeat' (first|(with_reducible first|refine bW ?_|refine bn ?_|refine bG ?_|refine bH ?_|refine bZ ?_|refine dQ ?_|refine bC ?_|refine bU ?_|refine aO ?_|refine aY ?_|refine bF ?_|refine aW ?_|refine bD ?_|refine aQ ?_|refine aV ?_)|((with_reducible refine aX ?_ ?_);rfl)|((with_reducible refine aZ ?_ ?_);rfl)|((with_reducible refine bg ?_ ?_);rfl)|(with_reducible (refine bf rfl ?_ ?_);all_goals(intro hb;have hb':=hb;(try simp only[pkC]at hb');try(exfalso;omega)))|(refine rg_ ?_;intro K hK)|(refine hq_ ?_;clear hK K)|refine ca_ ?_ ?_|(refine cg_ ?_;first|refine cT_ hrow ?_)|((with_reducible refine dP ?_);simp(disch:=first|decide|omega) only[↓pkS,pkW,pkA,undef,c_,d_,h_,bJ,dS,lvD,dU,lcD,lvK,lcK,bI,dn,bK,ex,St.put,St.ev,kav,gdA,opI,dK,dW,dD,dR,dV,AV.toD,AC.toD,AV.nw,AC.nw,AC.one,a_,aG,ak,aB,aF,aN,aH,if_true,if_false,b_,dF,D.one,D.ones,D.sz,D.szs,i_,j_,e_,f_,reduceIte,pkN,aJ,aI,aK,GRow.ay,GRow.aj,GRow.au,GRow.el,aC,aA,hg])|(first|(with_reducible rfl)|(with_reducible refine bV ?_;kernel_rfl)|exact aA _|exact aC _|exact el_ln _|exact el_tk _ _|exact el_td _ _ _|omega|(simp;done)|(simp;omega))|((with_reducible refine cu ?_);simp[bM,dM,dJ,dY,AC.toD,aG,ak,aB,aF,a_,bP,aU,bT,bQ,cO,aS,dh,cZ,eF,eG,aJ,aI,aK,GRow.ay,GRow.aj,GRow.au,GRow.el,aC,aA,hg];first|done|rfl))
      exact dX ⟨⟨0,_,rfl,rfl,by simp[iJ,kK]⟩,⟨_,rfl,rfl,trivial⟩⟩
     rw[decide_eq_true hlen]at hrow;have hs1:=fJ hall ((jy (dZ cols.length) hlk).trans (by unfold dZ;rw[hro,decide_eq_true hlen];rfl));have htk:(tl.map gJ).take (0+1)=(tl.map gJ).take 0++ [gJ tl[0]]:=by
      rw[o_ (by rw[g_];exact hlk),y_]
     repeat' (first|(with_reducible first|refine bW ?_|refine bn ?_|refine bG ?_|refine bH ?_|refine bZ ?_|refine dQ ?_|refine bC ?_|refine bU ?_|refine aO ?_|refine aY ?_|refine bF ?_|refine aW ?_|refine bD ?_|refine aQ ?_|refine aV ?_)|((with_reducible refine aX ?_ ?_);rfl)|((with_reducible refine aZ ?_ ?_);rfl)|((with_reducible refine bg ?_ ?_);rfl)|(with_reducible (refine bf rfl ?_ ?_);all_goals(intro hb;have hb':=hb;(try simp only[pkC]at hb');try(exfalso;omega)))|(refine rg_ ?_;intro K hK)|(refine hq_ ?_;clear hK K)|refine ca_ ?_ ?_|(refine cg_ ?_;first|refine cT_ hrow ?_)|((with_reducible refine dP ?_);simp(disch:=first|decide|omega) only[↓pkS,pkW,pkA,undef,c_,d_,h_,bJ,dS,lvD,dU,lcD,lvK,lcK,bI,dn,bK,ex,St.put,St.ev,kav,gdA,opI,dK,dW,dD,dR,dV,AV.toD,AC.toD,AV.nw,AC.nw,AC.one,a_,aG,ak,aB,aF,aN,aH,if_true,if_false,b_,dF,D.one,D.ones,D.sz,D.szs,i_,j_,e_,f_,reduceIte,pkN,aJ,aI,aK,GRow.ay,GRow.aj,GRow.au,GRow.el,aC,aA,hg])|(first|(with_reducible rfl)|(with_reducible refine bV ?_;kernel_rfl)|exact aA _|exact aC _|exact el_ln _|exact el_tk _ _|exact el_td _ _ _|omega|(simp;done)|(simp;omega))|((with_reducible refine cu ?_);simp[bM,dM,dJ,dY,AC.toD,aG,ak,aB,aF,a_,bP,aU,bT,bQ,cO,aS,dh,cZ,eF,eG,aJ,aI,aK,GRow.ay,GRow.aj,GRow.au,GRow.el,aC,aA,hg];first|done|rfl))
     all_goals first
      |(simp only[g_,w_,k_,s_,z_];omega)
      | (refine gU (1,some (0)) ?_ ⟨show 1≤tl.length by omega,hs1,A_ _⟩ (show tl.length - (1)<tl.length - 0 by omega)
         simp only[fB,iE,fC,fD,AV.fits,AC.fits,FB,eX,htk];simp[AV.fits,AC.fits,gJ, -r_])
  have htl0:tl= []:=List.eq_nil_of_length_eq_zero (by omega);have hz0:tl.length=0:=by omega
  have hd:=hval (.sl []) (by rw[htl,htl0];rfl) (by rw[htl0];rfl);rw[hD]at hd
  repeat' (first|(with_reducible first|refine bW ?_|refine bn ?_|refine bG ?_|refine bH ?_|refine bZ ?_|refine dQ ?_|refine bC ?_|refine bU ?_|refine aO ?_|refine aY ?_|refine bF ?_|refine aW ?_|refine bD ?_|refine aQ ?_|refine aV ?_)|((with_reducible refine aX ?_ ?_);rfl)|((with_reducible refine aZ ?_ ?_);rfl)|((with_reducible refine bg ?_ ?_);rfl)|(with_reducible (refine bf rfl ?_ ?_);all_goals(intro hb;have hb':=hb;(try simp only[pkC]at hb');try(exfalso;omega)))|(refine rg_ ?_;intro K hK)|(refine hq_ ?_;clear hK K)|refine ca_ ?_ ?_|((with_reducible refine DU ?_);refine rV hd trivial ?_ ?_)|((with_reducible refine dP ?_);simp(disch:=first|decide|omega) only[↓pkS,pkW,pkA,undef,c_,d_,h_,bJ,dS,lvD,dU,lcD,lvK,lcK,bI,dn,bK,ex,St.put,St.ev,kav,gdA,opI,dK,dW,dD,dR,dV,AV.toD,AC.toD,AV.nw,AC.nw,AC.one,a_,aG,ak,aB,aF,aN,aH,if_true,if_false,b_,dF,D.one,D.ones,D.sz,D.szs,i_,j_,e_,f_,reduceIte,pkN,aJ,aI,aK,GRow.ay,GRow.aj,GRow.au,GRow.el,aC,aA,hz0,gG,eY,fO,iy])|(first|(with_reducible rfl)|(with_reducible refine bV ?_;kernel_rfl)|exact aA _|exact aC _|exact el_ln _|exact el_tk _ _|exact el_td _ _ _|omega|(simp;done)|(simp;omega))|((with_reducible refine cu ?_);simp[bM,dM,dJ,dY,AC.toD,aG,ak,aB,aF,a_,bP,aU,bT,bQ,cO,aS,dh,cZ,eF,eG,aJ,aI,aK,GRow.ay,GRow.aj,GRow.au,GRow.el,aC,aA,hz0,gG,eY,fO,iy];first|done|rfl))
  exact dX ⟨⟨0,_,rfl,rfl,by simp[iJ,kK]⟩,⟨_,rfl,rfl,trivial⟩⟩
 ·simp only at hk hall hk0;simp only[FB,eX];by_cases hlk:k<tl.length
  ·have hg:idx (tl.map ls) (some ((k:Nat):Int))=some (ls tl[k]):=jH ls tl hlk;have hpz:=htz _ (l_ hlk);cases hro:iP tl[k]with
   | false=>
     have hrow:=vg tl[k] cols.length hpz z4 hro;have hr:isD s=false:=by unfold isD;rw[hcols,htl,gq hlk (show dZ cols.length tl[k]=false by unfold dZ;rw[hro];rfl)];rfl
     repeat' (first|(with_reducible first|refine bW ?_|refine bn ?_|refine bG ?_|refine bH ?_|refine bZ ?_|refine dQ ?_|refine bC ?_|refine bU ?_|refine aO ?_|refine aY ?_|refine bF ?_|refine aW ?_|refine bD ?_|refine aQ ?_|refine aV ?_)|((with_reducible refine aX ?_ ?_);rfl)|((with_reducible refine aZ ?_ ?_);rfl)|((with_reducible refine bg ?_ ?_);rfl)|(with_reducible (refine bf rfl ?_ ?_);all_goals(intro hb;have hb':=hb;(try simp only[pkC]at hb');try(exfalso;omega)))|(refine rg_ ?_;intro K hK)|(refine hq_ ?_;clear hK K)|refine ca_ ?_ ?_|(refine cg_ ?_;first|refine cT_ hrow ?_)|((with_reducible refine dP ?_);simp(disch:=first|decide|omega) only[↓pkS,pkW,pkA,undef,c_,d_,h_,bJ,dS,lvD,dU,lcD,lvK,lcK,bI,dn,bK,ex,St.put,St.ev,kav,gdA,opI,dK,dW,dD,dR,dV,AV.toD,AC.toD,AV.nw,AC.nw,AC.one,a_,aG,ak,aB,aF,aN,aH,if_true,if_false,b_,dF,D.one,D.ones,D.sz,D.szs,i_,j_,e_,f_,reduceIte,pkN,aJ,aI,aK,GRow.ay,GRow.aj,GRow.au,GRow.el,aC,aA,hg])|(first|(with_reducible rfl)|(with_reducible refine bV ?_;kernel_rfl)|exact aA _|exact aC _|exact el_ln _|exact el_tk _ _|exact el_td _ _ _|omega|(simp;done)|(simp;omega))|((with_reducible refine cu ?_);simp[bM,dM,dJ,dY,AC.toD,aG,ak,aB,aF,a_,bP,aU,bT,bQ,cO,aS,dh,cZ,eF,eG,aJ,aI,aK,GRow.ay,GRow.aj,GRow.au,GRow.el,aC,aA,hg];first|done|rfl))
     exact dX ⟨⟨0,_,rfl,rfl,by simp[iJ,kK]⟩,⟨_,rfl,rfl,trivial⟩⟩
   | true=>
     have hrow:=xZ tl[k] cols.length hpz z4 hro;by_cases hlen:(iT tl[k]).length=cols.length
     case neg=>
      rw[decide_eq_false hlen]at hrow;have hr:isD s=false:=by unfold isD;rw[hcols,htl,gq hlk (show dZ cols.length tl[k]=false by unfold dZ;rw[hro,decide_eq_false hlen];rfl)];rfl
      repeat' (first|(with_reducible first|refine bW ?_|refine bn ?_|refine bG ?_|refine bH ?_|refine bZ ?_|refine dQ ?_|refine bC ?_|refine bU ?_|refine aO ?_|refine aY ?_|refine bF ?_|refine aW ?_|refine bD ?_|refine aQ ?_|refine aV ?_)|((with_reducible refine aX ?_ ?_);rfl)|((with_reducible refine aZ ?_ ?_);rfl)|((with_reducible refine bg ?_ ?_);rfl)|(with_reducible (refine bf rfl ?_ ?_);all_goals(intro hb;have hb':=hb;(try simp only[pkC]at hb');try(exfalso;omega)))|(refine rg_ ?_;intro K hK)|(refine hq_ ?_;clear hK K)|refine ca_ ?_ ?_|(refine cg_ ?_;first|refine cT_ hrow ?_)|((with_reducible refine dP ?_);simp(disch:=first|decide|omega) only[↓pkS,pkW,pkA,undef,c_,d_,h_,bJ,dS,lvD,dU,lcD,lvK,lcK,bI,dn,bK,ex,St.put,St.ev,kav,gdA,opI,dK,dW,dD,dR,dV,AV.toD,AC.toD,AV.nw,AC.nw,AC.one,a_,aG,ak,aB,aF,aN,aH,if_true,if_false,b_,dF,D.one,D.ones,D.sz,D.szs,i_,j_,e_,f_,reduceIte,pkN,aJ,aI,aK,GRow.ay,GRow.aj,GRow.au,GRow.el,aC,aA,hg])|(first|(with_reducible rfl)|(with_reducible refine bV ?_;kernel_rfl)|exact aA _|exact aC _|exact el_ln _|exact el_tk _ _|exact el_td _ _ _|omega|(simp;done)|(simp;omega))|((with_reducible refine cu ?_);simp[bM,dM,dJ,dY,AC.toD,aG,ak,aB,aF,a_,bP,aU,bT,bQ,cO,aS,dh,cZ,eF,eG,aJ,aI,aK,GRow.ay,GRow.aj,GRow.au,GRow.el,aC,aA,hg];first|done|rfl))
      exact dX ⟨⟨0,_,rfl,rfl,by simp[iJ,kK]⟩,⟨_,rfl,rfl,trivial⟩⟩
     rw[decide_eq_true hlen]at hrow;have hs1:=fJ hall ((jy (dZ cols.length) hlk).trans (by unfold dZ;rw[hro,decide_eq_true hlen];rfl));have htk:(tl.map gJ).take (k+1)=(tl.map gJ).take k++ [gJ tl[k]]:=by
      rw[o_ (by rw[g_];exact hlk),y_]
     repeat' (first|(with_reducible first|refine bW ?_|refine bn ?_|refine bG ?_|refine bH ?_|refine bZ ?_|refine dQ ?_|refine bC ?_|refine bU ?_|refine aO ?_|refine aY ?_|refine bF ?_|refine aW ?_|refine bD ?_|refine aQ ?_|refine aV ?_)|((with_reducible refine aX ?_ ?_);rfl)|((with_reducible refine aZ ?_ ?_);rfl)|((with_reducible refine bg ?_ ?_);rfl)|(with_reducible (refine bf rfl ?_ ?_);all_goals(intro hb;have hb':=hb;(try simp only[pkC]at hb');try(exfalso;omega)))|(refine rg_ ?_;intro K hK)|(refine hq_ ?_;clear hK K)|refine ca_ ?_ ?_|(refine cg_ ?_;first|refine cT_ hrow ?_)|((with_reducible refine dP ?_);simp(disch:=first|decide|omega) only[↓pkS,pkW,pkA,undef,c_,d_,h_,bJ,dS,lvD,dU,lcD,lvK,lcK,bI,dn,bK,ex,St.put,St.ev,kav,gdA,opI,dK,dW,dD,dR,dV,AV.toD,AC.toD,AV.nw,AC.nw,AC.one,a_,aG,ak,aB,aF,aN,aH,if_true,if_false,b_,dF,D.one,D.ones,D.sz,D.szs,i_,j_,e_,f_,reduceIte,pkN,aJ,aI,aK,GRow.ay,GRow.aj,GRow.au,GRow.el,aC,aA,hg])|(first|(with_reducible rfl)|(with_reducible refine bV ?_;kernel_rfl)|exact aA _|exact aC _|exact el_ln _|exact el_tk _ _|exact el_td _ _ _|omega|(simp;done)|(simp;omega))|((with_reducible refine cu ?_);simp[bM,dM,dJ,dY,AC.toD,aG,ak,aB,aF,a_,bP,aU,bT,bQ,cO,aS,dh,cZ,eF,eG,aJ,aI,aK,GRow.ay,GRow.aj,GRow.au,GRow.el,aC,aA,hg];first|done|rfl))
     all_goals first
      |(simp only[g_,w_,k_,s_,z_];omega)
      | (refine gU (k+1,some (v+1)) ?_ ⟨show k+1≤tl.length by omega,hs1,A_ _⟩ (show tl.length - (k+1)<tl.length - k by omega)
         simp only[fB,iE,fC,fD,AV.fits,AC.fits,FB,eX,htk];simp[AV.fits,AC.fits,gJ, -r_])
  obtain rfl:k=tl.length:=by omega
  have hfin:(tl.map gJ).take tl.length=tl.map gJ:=v_ (by rw[g_];exact t_ _);have hd:=hval (.sl ((tl.map gJ).take tl.length)) (by rw[hfin,D.fix,nI,htl]) hall;rw[hD]at hd
  repeat' (first|(with_reducible first|refine bW ?_|refine bn ?_|refine bG ?_|refine bH ?_|refine bZ ?_|refine dQ ?_|refine bC ?_|refine bU ?_|refine aO ?_|refine aY ?_|refine bF ?_|refine aW ?_|refine bD ?_|refine aQ ?_|refine aV ?_)|((with_reducible refine aX ?_ ?_);rfl)|((with_reducible refine aZ ?_ ?_);rfl)|((with_reducible refine bg ?_ ?_);rfl)|(with_reducible (refine bf rfl ?_ ?_);all_goals(intro hb;have hb':=hb;(try simp only[pkC]at hb');try(exfalso;omega)))|(refine rg_ ?_;intro K hK)|(refine hq_ ?_;clear hK K)|refine ca_ ?_ ?_|((with_reducible refine DU ?_);refine rV hd trivial ?_ ?_)|((with_reducible refine dP ?_);simp(disch:=first|decide|omega) only[↓pkS,pkW,pkA,undef,c_,d_,h_,bJ,dS,lvD,dU,lcD,lvK,lcK,bI,dn,bK,ex,St.put,St.ev,kav,gdA,opI,dK,dW,dD,dR,dV,AV.toD,AC.toD,AV.nw,AC.nw,AC.one,a_,aG,ak,aB,aF,aN,aH,if_true,if_false,b_,dF,D.one,D.ones,D.sz,D.szs,i_,j_,e_,f_,reduceIte,pkN,aJ,aI,aK,GRow.ay,GRow.aj,GRow.au,GRow.el,aC,aA,gG,eY,fO,iy])|(first|(with_reducible rfl)|(with_reducible refine bV ?_;kernel_rfl)|exact aA _|exact aC _|exact el_ln _|exact el_tk _ _|exact el_td _ _ _|omega|(simp;done)|(simp;omega))|((with_reducible refine cu ?_);simp[bM,dM,dJ,dY,AC.toD,aG,ak,aB,aF,a_,bP,aU,bT,bQ,cO,aS,dh,cZ,eF,eG,aJ,aI,aK,GRow.ay,GRow.aj,GRow.au,GRow.el,aC,aA,gG,eY,fO,iy];first|done|rfl))
  exact dX ⟨⟨0,_,rfl,rfl,by simp[iJ,kK]⟩,⟨_,rfl,rfl,trivial⟩⟩
end Go.Proofs.YtfengkmaphbofaaGreatDoor
