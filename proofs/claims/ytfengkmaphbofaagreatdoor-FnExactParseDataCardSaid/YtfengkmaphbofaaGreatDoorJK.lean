/-
  Texts joined: Prs1 Prs2 Prs3.
-/
import Derived.Test.YtfengkmaphbofaaGreatDoorJI
set_option maxHeartbeats 16000000
set_option linter.unusedSimpArgs false
set_option linter.unusedVariables false
namespace Go.Proofs.YtfengkmaphbofaaGreatDoor
open Go.RowKit
open Nat renaming reduceLeDiff→a_,reduceEqDiff→b_,reduceAdd→d_,reduceSub→e_,le_refl→k_,zero_le→o_
open Value renaming oneCell'→c_,string→x_
open Bool renaming false_eq_true→f_
open List renaming flatMap_cons→g_,flatMap_nil→h_,append_nil→i_,length_nil→m_,mem_singleton→n_,cons_append→p_,length_cons→q_,nil_append→r_,replicate→s_,map_cons→t_,map_nil→v_,take_length→y_,mem_append→A_
open Int renaming toNat_natCast→j_
open Lib renaming bytesWorld_below→l_,countB→B_,occAt→C_
open Below renaming refl→u_
attribute [local irreducible] sw sd sn
theorem MH(s:ByteArray)(lo hi:Int)(hs:s.size≤1048576)(w:World)(ht:kT w):Calls Tryz.prog 78 #[.string s,.int .i64 lo,.int .i64 hi] w fun e w'=>e= .returned (.tuple #[.int .i64 (rdN lo hi s).1,.bool (rdN lo hi s).2])∧Below w.heap.size w w':=by
 obtain⟨hp,⟨ev0,hv0,he0⟩,⟨ev1,hv1,he1⟩,_⟩:=id ht;cases h:Lib.atoiAll s.data.toList with
 | ok v=>
   obtain⟨hb0,hb1⟩:=Lib.atoiAll_bounds h;by_cases hlo:v<lo
   ·have hr:rdN lo hi s=(0,false):=by unfold rdN;rw[h];simp only;rw[if_neg (by omega)]
    rw[hr]
    go_enter Tryz.func78,Tryz.ntmps78
    go_wp2_with (go_at_call 118;refine(Tryz.strconv_Atoi_ok s (by omega) v h _).mono ?_;rintro e w' ⟨rfl,hw⟩)
    have hB:Below w.heap.size w w':=by
     rcases hw with rfl|⟨t,rfl⟩
     ·exact u_ _ _
     ·exact l_ _ _ _
    go_wp2
    go_ret2
    exact⟨rfl,hB⟩
   by_cases hhi:hi<v
   ·have hr:rdN lo hi s=(0,false):=by unfold rdN;rw[h];simp only;rw[if_neg (by omega)]
    rw[hr]
    go_enter Tryz.func78,Tryz.ntmps78
    go_wp2_with (go_at_call 118;refine(Tryz.strconv_Atoi_ok s (by omega) v h _).mono ?_;rintro e w' ⟨rfl,hw⟩)
    have hB:Below w.heap.size w w':=by
     rcases hw with rfl|⟨t,rfl⟩
     ·exact u_ _ _
     ·exact l_ _ _ _
    go_wp2
    go_ret2
    exact⟨rfl,hB⟩
   have hIt:∀W,kT W→Calls Tryz.prog 100 #[.int .i64 v] W (NP (.string (kN v)) W):=fun W hW=>TY (RN hb0 hb1) (vs:= [.int .i64 v]) ⟨uw _,trivial⟩ hW
   by_cases heq:kN v=s
   ·have hr:rdN lo hi s=(v,true):=vk hb0 hb1 (by omega) (by omega) heq;have hq:((kN v).toList==s.toList)=true:=by rw[heq];simp
    rw[hr]
    go_enter Tryz.func78,Tryz.ntmps78
    go_wp2_with (go_at_call 118;refine(Tryz.strconv_Atoi_ok s (by omega) v h _).mono ?_;rintro e w' ⟨rfl,hw⟩)
    have hB:Below w.heap.size w w':=by
     rcases hw with rfl|⟨t,rfl⟩
     ·exact u_ _ _
     ·exact l_ _ _ _
    clear hw
    go_wp2_with (go_at_call 100;refine(hIt _ (o9 ht hB)).mono ?_;rintro e w2 ⟨rfl,hB2⟩)
    go_wp2
    go_ret2
    exact⟨rfl,hB.trans (hB2.mono hB.size)⟩
   ·have hr:rdN lo hi s=(0,false):=by unfold rdN;rw[h];simp only;rw[if_neg (fun hc=>heq hc.2.2)]
    have hq:((kN v).toList==s.toList)=false:=by
     rw[beq_eq_false_iff_ne];exact fun e=>heq (xB.1 e)
    rw[hr]
    go_enter Tryz.func78,Tryz.ntmps78
    go_wp2_with (go_at_call 118;refine(Tryz.strconv_Atoi_ok s (by omega) v h _).mono ?_;rintro e w' ⟨rfl,hw⟩)
    have hB:Below w.heap.size w w':=by
     rcases hw with rfl|⟨t,rfl⟩
     ·exact u_ _ _
     ·exact l_ _ _ _
    clear hw
    go_wp2_with (go_at_call 100;refine(hIt _ (o9 ht hB)).mono ?_;rintro e w2 ⟨rfl,hB2⟩)
    go_wp2
    go_ret2
    exact⟨rfl,hB.trans (hB2.mono hB.size)⟩
 | «syntax» =>
   have hr:rdN lo hi s=(0,false):=by unfold rdN;rw[h]
   rw[hr]
   go_enter Tryz.func78,Tryz.ntmps78
   go_wp2_with (go_at_call 118;refine(Tryz.strconv_Atoi_syntax s (by omega) h ev0 _ ?_ he0).mono ?_)
   ·exact hv0
   rintro e W1 ⟨N,rfl, -, -,hb⟩
   go_wp2
   go_ret2
   exact⟨rfl,hb⟩
 | range=>
   have hr:rdN lo hi s=(0,false):=by unfold rdN;rw[h]
   rw[hr]
   go_enter Tryz.func78,Tryz.ntmps78
   go_wp2_with (go_at_call 118;refine(Tryz.strconv_Atoi_range s (by omega) h ev1 _ ?_ he1).mono ?_)
   ·exact hv1
   rintro e W1 ⟨N,rfl, -, -,hb⟩
   go_wp2
   go_ret2
   exact⟨rfl,hb⟩
abbrev Jf(p:Int×Bool):AV:= .tup [(false,[.raw (.int .i64 p.1)]),(false,[.raw (.bool p.2)])]
theorem zZ(s:ByteArray)(lo hi:Int)(hs:s.size≤1048576):dN Tryz.prog 78 [ls s,li lo,li hi] (Jf (rdN lo hi s)):=fun w vs hr ht=>by
 obtain⟨v,u,z,rfl,h1,h2,h3⟩:=TQ hr;obtain rfl:=jc h1;obtain rfl:=jc h2;obtain rfl:=jc h3;exact(MH s lo hi hs w ht).mono fun e w' ⟨he,hb⟩=>⟨_,he,⟨[.int .i64 (rdN lo hi s).1,.bool (rdN lo hi s).2],rfl,⟨rfl,trivial⟩,⟨rfl,trivial⟩,trivial⟩,hb⟩
theorem uq{w:World}:∀(l:List ByteArray),Rs w (l.map ls) [] (l.map x_)
 | []=>⟨rfl,rfl⟩
 |s::l=>⟨[],[],[.string s],l.map x_,rfl,rfl,⟨rfl,rfl⟩,uq l⟩
theorem Rj{P:Program}{f:Nat}{ds l:List D}(h:∀w vs,Rds w ds vs→kT w→Calls P f vs.toArray w (zI l w)):dN P f ds (.c false [.sl true l]):=fun w vs hr ht=>(h w vs hr ht).mono fun e w' ⟨fp,v,h1,h2,h3,h4⟩=>
 ⟨v,h1,⟨⟨fp,h2,fun b hb=>⟨nV.2 (h3.2 b hb).1,fun _=>Or.inl (h3.2 b hb).1⟩⟩,trivial⟩,h4⟩
theorem EZ(sep s:ByteArray)(h1:1≤sep.size):(cut sep s).length=B_ s sep+1:=Lib.splitB_all sep h1 0 _ s rfl
theorem lH(sep s:ByteArray)(h1:1≤sep.size):(cut sep s).length≤s.size+1:=by
 rw[EZ sep s h1];have:=Lib.countB_le sep h1 s.size s (k_ _);omega
theorem uX(s sep:ByteArray)(hs:s.size≤1048576)(h1:1≤sep.size):dN Tryz.prog 35 [ls s,ls sep] (.c false [.sl true ((cut sep s).map ls)]):=Rj fun w vs hr ht=>by
 obtain⟨v,u,rfl,g1,g2⟩:=Rt hr;obtain rfl:=jc g1;obtain rfl:=jc g2;obtain⟨_,_,_,m,hm⟩:=ht;refine(Tryz.strings_Split s sep m w (by omega) hm h1).mono ?_;rintro e w' ⟨rfl,rfl⟩;have hl:=EZ sep s h1;have hle:=lH sep s h1;have hrow:=Row.new w 9 ((cut sep s).map x_).toArray;rw[List.toList_toArray]at hrow;have hS:=Sl.Jh (n:=B_ s sep+1) hrow (uq (cut sep s)) (by rw[List.length_map,hl]) (by unfold maxLen;omega);exact⟨[w.heap.size],_,rfl,hS,gV.QK hrow (k_ _) gV.nil,(u_ _ _).alloc (k_ _) _⟩
def yB :IC:=(zd_ [zz_ 4 (.mov (.k (.slice none 0 0)))] (zd_ [zw_ 5 0,zw_ 6 1,zz_ 7 (.brow true 5 1 1 false [(.t 6)]),zz_ 8 (.cvs (.t 7)),zp_ 9 35 5 8,zw_ 4 9] .ret))
theorem AP :dG Tryz.prog (Tryz.f36.body.getD .skip)=some yB:=by kernel_rfl
theorem jQ(s:ByteArray)(c:UInt8)(hs:s.size≤1048576):dN Tryz.prog 36 [ls s,lu8 c] (.c false [.sl true ((cut ⟨#[c]⟩ s).map ls)]):=by
 refine gZ (fn:=Tryz.f36) (t:=4) (hc:=AP) (h:= ?_);unfold yB;refine zb_ ?_;change AWP _ _ _ (st0 10 _);unfold lu8;simp only[undef,stS,st0,stN,D.av,D.avN,cO,aS,dh,cZ,aK,eU,aJ,aI,t_,v_,s_,p_,r_,q_,m_,d_,e_];have hi:=uX s ⟨#[c]⟩ hs (k_ 1);have hb:jk [.leaf (.int .u8 (c.toNat:Int))]=some [c]:=uP [c]
 repeat' (first|(with_reducible first|refine bW ?_|refine bn ?_|refine bG ?_|refine bH ?_|refine bZ ?_|refine dQ ?_|refine bC ?_|refine bU ?_|refine aO ?_|refine aY ?_|refine bF ?_|refine aW ?_|refine bD ?_|refine aQ ?_|refine aV ?_)|((with_reducible refine aX ?_ ?_);rfl)|((with_reducible refine aZ ?_ ?_);rfl)|((with_reducible refine bg ?_ ?_);rfl)|(with_reducible (refine bf rfl ?_ ?_);all_goals(intro hb;have hb':=hb;(try simp only[pkC]at hb');try(exfalso;omega)))|(refine rg_ ?_;intro K hK)|(refine hq_ ?_;clear hK K)|refine ca_ ?_ ?_|(refine cg_ ?_;first|refine cT_ hi ?_)|((with_reducible refine dP ?_);simp(disch:=first|decide|omega) only[↓pkS,pkW,pkA,undef,g_,h_,i_,bJ,dS,lvD,dU,lcD,lvK,lcK,bI,dn,bK,ex,St.put,St.ev,kav,gdA,opI,dK,dW,dD,dR,dV,AV.toD,AC.toD,AV.nw,AC.nw,AC.one,c_,aG,ak,aB,aF,aN,aH,if_true,if_false,f_,dF,D.one,D.ones,D.sz,D.szs,d_,e_,a_,b_,reduceIte,pkN,aJ,aI,aK,aC,aA,hb])|(first|(with_reducible rfl)|(with_reducible refine bV ?_;kernel_rfl)|exact aA _|exact aC _|exact el_ln _|exact el_tk _ _|exact el_td _ _ _|omega|(simp;done)|(simp;omega))|((with_reducible refine cu ?_);simp[bM,dM,dJ,dY,AC.toD,aG,ak,aB,aF,c_,bP,aU,bT,bQ,cO,aS,dh,cZ,eF,eG,aJ,aI,aK,aC,aA,hb];first|done|rfl))
 exact dX ⟨_,rfl,⟨rfl,rfl⟩,trivial⟩
def kD(s:ByteArray)(c:UInt8)(i k:Nat)(l:List ByteArray):Prop:=
 l.length≤i∧((i≤s.size∧k≤i∧(∀j,k≤j→j<i→C_ s.data.toList [c] j=false)∧l++cut ⟨#[c]⟩ (s.extract k s.size)=cut ⟨#[c]⟩ s)∨(i=s.size+1∧l=cut ⟨#[c]⟩ s))
theorem kD.start(s:ByteArray)(c:UInt8):kD s c 0 0 []:=⟨k_ _,Or.inl ⟨o_ _,k_ _,fun j _ h=>absurd h (Nat.not_lt_zero _),by rw[rJ];rfl⟩⟩
theorem kD.last{s:ByteArray}{c:UInt8}{k:Nat}{l:List ByteArray}(h:kD s c s.size k l):kD s c (s.size+1) (s.size+1) (l++ [s.extract k s.size]):=by
 obtain⟨h1,⟨h2,h3,h4,h5⟩|⟨h2,_⟩⟩:=h
 ·refine⟨by simp;omega,Or.inr ⟨rfl, ?_⟩⟩;rw[← h5,vU s ⟨#[c]⟩ (fun j hj hj2=> ?_) h3];rcases Nat.lt_or_ge j s.size with hlt|hge
  ·exact h4 j hj hlt
  ·exact PD s c hge
 ·omega
theorem kD.hit{s:ByteArray}{c:UInt8}{i k:Nat}{l:List ByteArray}(h:kD s c i k l)(hi:i<s.size)(hc:s[i]=c):kD s c (i+1) (i+1) (l++ [s.extract k i]):=by
 obtain⟨h1,⟨h2,h3,h4,h5⟩|⟨h2,_⟩⟩:=h
 ·refine⟨by simp;omega,Or.inl ⟨by omega,k_ _,fun j hj hj2=>by omega, ?_⟩⟩;rw[← h5,E5 s ⟨#[c]⟩ (k_ 1) h3 (show i+1≤s.size by omega) h4 ((UG s c hi).trans (by simp[hc]))];simp;rfl
 ·omega
theorem kD.miss{s:ByteArray}{c:UInt8}{i k:Nat}{l:List ByteArray}(h:kD s c i k l)(hi:i<s.size)(hc:s[i]≠c):kD s c (i+1) k l:=by
 obtain⟨h1,⟨h2,h3,h4,h5⟩|⟨h2,_⟩⟩:=h
 ·refine⟨by omega,Or.inl ⟨by omega,by omega,fun j hj hj2=> ?_,h5⟩⟩;by_cases e:j=i
  ·subst e;rw[UG s c hi,beq_eq_false_iff_ne];exact fun e=>hc e.symm
  ·exact h4 j hj (by omega)
 ·omega
theorem kD.U3{s:ByteArray}{c:UInt8}{i k:Nat}{l:List ByteArray}(h:kD s c i k l)(hi:i≤s.size):k≤i:=by
 obtain⟨h1,⟨h2,h3,_⟩|⟨h2,_⟩⟩:=h
 ·exact h3
 ·omega
theorem kD.i_le{s:ByteArray}{c:UInt8}{i k:Nat}{l:List ByteArray}(h:kD s c i k l):i≤s.size+1:=by
 obtain⟨h1,⟨h2,h3,_⟩|⟨h2,_⟩⟩:=h
 ·omega
 ·omega
theorem kD.fin{s:ByteArray}{c:UInt8}{k:Nat}{l:List ByteArray}(h:kD s c (s.size+1) k l):l=cut ⟨#[c]⟩ s:=by
 obtain⟨h1,⟨h2,h3,_⟩|⟨h2,h3⟩⟩:=h
 ·omega
 ·exact h3
theorem Uy(a b:UInt8):(((a.toNat:Nat):Int)==((b.toNat:Nat):Int))=decide (a=b):=by
 by_cases h:a=b
 ·subst h;simp
 ·rw[decide_eq_false h,beq_eq_false_iff_ne];intro e;exact h (UInt8.toNat_inj.1 (by omega))
theorem sZ{s:ByteArray}{k:Nat}(h:k<s.size):s.data[k]? =some s[k]:=by
 rw[Array.getElem?_eq_getElem (by simpa using h)];rfl
theorem zle(k:Nat):((0:Int)≤((k:Nat):Int))=True:=by simp
def yA :IC:=(zd_ [zz_ 4 (.mov (.k (.slice none 0 0)))] (zd_ [zz_ 8 (.brow true 9 1 0 false []),zw_ 5 8] (zd_ [zk_ 6 0] (.seq (zd_ [zk_ 7 0] (.block 0 (.loop (.seq (zd_ [zw_ 9 7,zw_ 10 0,zf_ 11 true 10,zl_ 12 .leq 9 11] (.cond (.t 12) .skip (.exit 0))) (.seq (.block 1 (zd_ [zw_ 15 7,zw_ 16 0,zf_ 17 true 16,zl_ 18 .eql 15 17,zw_ 19 18,zu_ 20 19 0,zu_ 21 19 7,zx_ 22 19 (.sidx (.t 20) (.t 21)),zu_ 23 19 1,zx_ 24 19 (.bin .eql (.t 22) (.t 23)),zg_ 25 19 true 24] (.cond (.t 25) (zd_ [zw_ 26 5,zw_ 27 0,zw_ 28 6,zw_ 29 7,zz_ 30 (.ssl (.t 27) (some (.t 28)) (some (.t 29))),zz_ 31 (.brow false 9 1 1 false [(.t 30)]),zz_ 32 (.app 9 1 (.t 26) (.t 31)),zw_ 5 32] (.reg false [zw_ 33 7,zm_ 34 .add 33 1,zw_ 6 34])) .skip))) (.reg false [zw_ 13 7,zm_ 14 .add 13 1,zw_ 7 14])))))) (zd_ [zw_ 35 5,zw_ 4 35] .ret)))))
theorem AO :dG Tryz.prog (Tryz.f32.body.getD .skip)=some yA:=by kernel_rfl
theorem jP(s:ByteArray)(c:UInt8)(hs:s.size≤1048576):dN Tryz.prog 32 [ls s,lu8 c] (.c false [.sl true ((cut ⟨#[c]⟩ s).map ls)]):=by
 refine gZ (fn:=Tryz.f32) (t:=4) (hc:=AO) (h:= ?_);unfold yA;refine zb_ ?_;change AWP _ _ _ (st0 36 _);unfold lu8;simp only[undef,stS,st0,stN,D.av,D.avN,cO,aS,dh,cZ,aK,eU,aJ,aI,t_,v_,s_,p_,r_,q_,m_,d_,e_]
 repeat' (first|(with_reducible first|refine bW ?_|refine bn ?_|refine bG ?_|refine bH ?_|refine bZ ?_|refine dQ ?_|refine bC ?_|refine bU ?_|refine aO ?_|refine aY ?_|refine bF ?_|refine aW ?_|refine bD ?_|refine aQ ?_|refine aV ?_)|((with_reducible refine aX ?_ ?_);rfl)|((with_reducible refine aZ ?_ ?_);rfl)|((with_reducible refine bg ?_ ?_);rfl)|(with_reducible (refine bf rfl ?_ ?_);all_goals(intro hb;have hb':=hb;(try simp only[pkC]at hb');try(exfalso;omega)))|(refine rg_ ?_;intro K hK)|((with_reducible refine dw ?_ ?_);rfl)|((with_reducible refine dA ?_ ?_);(rfl;try simp only[St.put,undef,pkA,d_,e_,a_,b_]))|(with_reducible (refine dB rfl ?_ ?_);all_goals(intro hb;have hb':=hb;(try simp only[pkC]at hb');try(exfalso;omega)))|(refine hq_ ?_;clear hK K)|refine ca_ ?_ ?_|((with_reducible refine dP ?_);simp(disch:=first|decide|omega) only[↓pkS,pkW,pkA,undef,g_,h_,i_,bJ,dS,lvD,dU,lcD,lvK,lcK,bI,dn,bK,ex,St.put,St.ev,kav,gdA,opI,dK,dW,dD,dR,dV,AV.toD,AC.toD,AV.nw,AC.nw,AC.one,c_,aG,ak,aB,aF,aN,aH,if_true,if_false,f_,dF,D.one,D.ones,D.sz,D.szs,d_,e_,a_,b_,reduceIte,pkN,aJ,aI,aK,aC,aA])|(first|(with_reducible rfl)|(with_reducible refine bV ?_;kernel_rfl)|exact aA _|exact aC _|exact el_ln _|exact el_tk _ _|exact el_td _ _ _|omega|(simp;done)|(simp;omega))|((with_reducible refine cu ?_);simp[bM,dM,dJ,dY,AC.toD,aG,ak,aB,aF,c_,bP,aU,bT,bQ,cO,aS,dh,cZ,eF,eG,aJ,aI,aK,aC,aA];first|done|rfl))
 refine fQ (X:=Nat×Nat×List ByteArray×Nat) (fun q=> [.k,.k,.d,.d,.d,.v (.c false [.own 0 q.2.2.2]),.v (.c false [.raw (.int .i64 (q.2.1:Nat))]),.v (.c false [.raw (.int .i64 (q.1:Nat))])]) (fun q=> [⟨q.2.2.1.map ls,9,1,q.2.2.2,true⟩]) (fun q bs=> []) (fun q=>kD s c q.1 q.2.1 q.2.2.1) (fun q=>s.size+1 - q.1) (0,0,[],0) (kD.start s c) ?_ ?_
 ·simp[fB,iE,fC,fD,AV.fits,AC.fits,FB,eX]
 rintro⟨i,k,l,v⟩ hinv0;have hinv:kD s c i k l:=hinv0;clear hinv0;simp only[FB,eX];have hil:=hinv.i_le;have hll:l.length≤1048577:=by have:=hinv.1;omega
 by_cases hi:i≤s.size
 case neg=>
  obtain rfl:i=s.size+1:=by omega
  have e0:decide ((((s.size+1:Nat)):Int)≤(s.size:Int))=false:=decide_eq_false (by omega);have hfin:=hinv.fin;subst hfin
  repeat' (first|(with_reducible first|refine bW ?_|refine bn ?_|refine bG ?_|refine bH ?_|refine bZ ?_|refine dQ ?_|refine bC ?_|refine bU ?_|refine aO ?_|refine aY ?_|refine bF ?_|refine aW ?_|refine bD ?_|refine aQ ?_|refine aV ?_)|((with_reducible refine aX ?_ ?_);rfl)|((with_reducible refine aZ ?_ ?_);rfl)|((with_reducible refine bg ?_ ?_);rfl)|(with_reducible (refine bf rfl ?_ ?_);all_goals(intro hb;have hb':=hb;(try simp only[pkC]at hb');try(exfalso;omega)))|(refine rg_ ?_;intro K hK)|((with_reducible refine dw ?_ ?_);rfl)|((with_reducible refine dA ?_ ?_);(rfl;try simp only[St.put,undef,pkA,d_,e_,a_,b_]))|(with_reducible (refine dB rfl ?_ ?_);all_goals(intro hb;have hb':=hb;(try simp only[pkC]at hb');try(exfalso;omega)))|(refine hq_ ?_;clear hK K)|refine ca_ ?_ ?_|((with_reducible refine dP ?_);simp(disch:=first|decide|omega) only[↓pkS,pkW,pkA,undef,g_,h_,i_,bJ,dS,lvD,dU,lcD,lvK,lcK,bI,dn,bK,ex,St.put,St.ev,kav,gdA,opI,dK,dW,dD,dR,dV,AV.toD,AC.toD,AV.nw,AC.nw,AC.one,c_,aG,ak,aB,aF,aN,aH,if_true,if_false,f_,dF,D.one,D.ones,D.sz,D.szs,d_,e_,a_,b_,reduceIte,pkN,aJ,aI,aK,aC,aA,e0])|(first|(with_reducible rfl)|(with_reducible refine bV ?_;kernel_rfl)|exact aA _|exact aC _|exact el_ln _|exact el_tk _ _|exact el_td _ _ _|omega|(simp;done)|(simp;omega))|((with_reducible refine cu ?_);simp[bM,dM,dJ,dY,AC.toD,aG,ak,aB,aF,c_,bP,aU,bT,bQ,cO,aS,dh,cZ,eF,eG,aJ,aI,aK,aC,aA,e0];first|done|rfl))
  exact dX ⟨_,rfl,⟨_,rfl,rfl,rfl,Or.inl rfl⟩,trivial⟩
 have hk:=hinv.U3 hi;have e1:decide ((i:Int)≤(s.size:Int))=true:=decide_eq_true (by omega);by_cases he:i=s.size
 ·have e2:((i:Int)==(s.size:Int))=true:=by simp[he]
  have hn:=hinv;rw[he]at hn;have hn2:=hn.last;rw[← he]at hn2;have hse:(l++ [s.extract k i]).map ls=l.map ls++ [ls (s.extract k i)]:=by simp
  repeat' (first|(with_reducible first|refine bW ?_|refine bn ?_|refine bG ?_|refine bH ?_|refine bZ ?_|refine dQ ?_|refine bC ?_|refine bU ?_|refine aO ?_|refine aY ?_|refine bF ?_|refine aW ?_|refine bD ?_|refine aQ ?_|refine aV ?_)|((with_reducible refine aX ?_ ?_);rfl)|((with_reducible refine aZ ?_ ?_);rfl)|((with_reducible refine bg ?_ ?_);rfl)|(with_reducible (refine bf rfl ?_ ?_);all_goals(intro hb;have hb':=hb;(try simp only[pkC]at hb');try(exfalso;omega)))|(refine rg_ ?_;intro K hK)|((with_reducible refine dw ?_ ?_);rfl)|((with_reducible refine dA ?_ ?_);(rfl;try simp only[St.put,undef,pkA,d_,e_,a_,b_]))|(with_reducible (refine dB rfl ?_ ?_);all_goals(intro hb;have hb':=hb;(try simp only[pkC]at hb');try(exfalso;omega)))|(refine hq_ ?_;clear hK K)|refine ca_ ?_ ?_|((with_reducible refine dP ?_);simp(disch:=first|decide|omega) only[↓pkS,pkW,pkA,undef,g_,h_,i_,bJ,dS,lvD,dU,lcD,lvK,lcK,bI,dn,bK,ex,St.put,St.ev,kav,gdA,opI,dK,dW,dD,dR,dV,AV.toD,AC.toD,AV.nw,AC.nw,AC.one,c_,aG,ak,aB,aF,aN,aH,if_true,if_false,f_,dF,D.one,D.ones,D.sz,D.szs,d_,e_,a_,b_,reduceIte,pkN,aJ,aI,aK,aC,aA,e1,e2,hse])|(first|(with_reducible rfl)|(with_reducible refine bV ?_;kernel_rfl)|exact aA _|exact aC _|exact el_ln _|exact el_tk _ _|exact el_td _ _ _|omega|(simp;done)|(simp;omega))|((with_reducible refine cu ?_);simp[bM,dM,dJ,dY,AC.toD,aG,ak,aB,aF,c_,bP,aU,bT,bQ,cO,aS,dh,cZ,eF,eG,aJ,aI,aK,aC,aA,e1,e2,hse];first|done|rfl))
  refine gU (i+1,i+1,l++ [s.extract k i],v+1) ?_ (show kD s c (i+1) (i+1) (l++ [s.extract k i]) by exact hn2) (show s.size+1 - (i+1)<s.size+1 - i by omega);simp[fB,iE,fC,fD,AV.fits,AC.fits,FB,eX,ls]
 have hlt:i<s.size:=by omega
 have e2:((i:Int)==(s.size:Int))=false:=uh (by omega);have hsx:=sZ hlt;have hu:=Uy s[i] c;by_cases hc:s[i]=c
 ·rw[decide_eq_true hc]at hu;have hn2:=hinv.hit hlt hc;have hse:(l++ [s.extract k i]).map ls=l.map ls++ [ls (s.extract k i)]:=by simp
  repeat' (first|(with_reducible first|refine bW ?_|refine bn ?_|refine bG ?_|refine bH ?_|refine bZ ?_|refine dQ ?_|refine bC ?_|refine bU ?_|refine aO ?_|refine aY ?_|refine bF ?_|refine aW ?_|refine bD ?_|refine aQ ?_|refine aV ?_)|((with_reducible refine aX ?_ ?_);rfl)|((with_reducible refine aZ ?_ ?_);rfl)|((with_reducible refine bg ?_ ?_);rfl)|(with_reducible (refine bf rfl ?_ ?_);all_goals(intro hb;have hb':=hb;(try simp only[pkC]at hb');try(exfalso;omega)))|(refine rg_ ?_;intro K hK)|((with_reducible refine dw ?_ ?_);rfl)|((with_reducible refine dA ?_ ?_);(rfl;try simp only[St.put,undef,pkA,d_,e_,a_,b_]))|(with_reducible (refine dB rfl ?_ ?_);all_goals(intro hb;have hb':=hb;(try simp only[pkC]at hb');try(exfalso;omega)))|(refine hq_ ?_;clear hK K)|refine ca_ ?_ ?_|((with_reducible refine dP ?_);simp(disch:=first|decide|omega) only[↓pkS,pkW,pkA,undef,g_,h_,i_,bJ,dS,lvD,dU,lcD,lvK,lcK,bI,dn,bK,ex,St.put,St.ev,kav,gdA,opI,dK,dW,dD,dR,dV,AV.toD,AC.toD,AV.nw,AC.nw,AC.one,c_,aG,ak,aB,aF,aN,aH,if_true,if_false,f_,dF,D.one,D.ones,D.sz,D.szs,d_,e_,a_,b_,reduceIte,pkN,aJ,aI,aK,aC,aA,e1,e2,hsx,hu,zle,j_,hse])|(first|(with_reducible rfl)|(with_reducible refine bV ?_;kernel_rfl)|exact aA _|exact aC _|exact el_ln _|exact el_tk _ _|exact el_td _ _ _|omega|(simp;done)|(simp;omega))|((with_reducible refine cu ?_);simp[bM,dM,dJ,dY,AC.toD,aG,ak,aB,aF,c_,bP,aU,bT,bQ,cO,aS,dh,cZ,eF,eG,aJ,aI,aK,aC,aA,e1,e2,hsx,hu,zle,j_,hse];first|done|rfl))
  refine gU (i+1,i+1,l++ [s.extract k i],v+1) ?_ (show kD s c (i+1) (i+1) (l++ [s.extract k i]) by exact hn2) (show s.size+1 - (i+1)<s.size+1 - i by omega);simp[fB,iE,fC,fD,AV.fits,AC.fits,FB,eX,ls]
 ·rw[decide_eq_false hc]at hu;have hn2:=hinv.miss hlt hc
  repeat' (first|(with_reducible first|refine bW ?_|refine bn ?_|refine bG ?_|refine bH ?_|refine bZ ?_|refine dQ ?_|refine bC ?_|refine bU ?_|refine aO ?_|refine aY ?_|refine bF ?_|refine aW ?_|refine bD ?_|refine aQ ?_|refine aV ?_)|((with_reducible refine aX ?_ ?_);rfl)|((with_reducible refine aZ ?_ ?_);rfl)|((with_reducible refine bg ?_ ?_);rfl)|(with_reducible (refine bf rfl ?_ ?_);all_goals(intro hb;have hb':=hb;(try simp only[pkC]at hb');try(exfalso;omega)))|(refine rg_ ?_;intro K hK)|((with_reducible refine dw ?_ ?_);rfl)|((with_reducible refine dA ?_ ?_);(rfl;try simp only[St.put,undef,pkA,d_,e_,a_,b_]))|(with_reducible (refine dB rfl ?_ ?_);all_goals(intro hb;have hb':=hb;(try simp only[pkC]at hb');try(exfalso;omega)))|(refine hq_ ?_;clear hK K)|refine ca_ ?_ ?_|((with_reducible refine dP ?_);simp(disch:=first|decide|omega) only[↓pkS,pkW,pkA,undef,g_,h_,i_,bJ,dS,lvD,dU,lcD,lvK,lcK,bI,dn,bK,ex,St.put,St.ev,kav,gdA,opI,dK,dW,dD,dR,dV,AV.toD,AC.toD,AV.nw,AC.nw,AC.one,c_,aG,ak,aB,aF,aN,aH,if_true,if_false,f_,dF,D.one,D.ones,D.sz,D.szs,d_,e_,a_,b_,reduceIte,pkN,aJ,aI,aK,aC,aA,e1,e2,hsx,hu,zle,j_])|(first|(with_reducible rfl)|(with_reducible refine bV ?_;kernel_rfl)|exact aA _|exact aC _|exact el_ln _|exact el_tk _ _|exact el_td _ _ _|omega|(simp;done)|(simp;omega))|((with_reducible refine cu ?_);simp[bM,dM,dJ,dY,AC.toD,aG,ak,aB,aF,c_,bP,aU,bT,bQ,cO,aS,dh,cZ,eF,eG,aJ,aI,aK,aC,aA,e1,e2,hsx,hu,zle,j_];first|done|rfl))
  refine gU (i+1,k,l,v) ?_ (show kD s c (i+1) k l by exact hn2) (show s.size+1 - (i+1)<s.size+1 - i by omega);simp[fB,iE,fC,fD,AV.fits,AC.fits,FB,eX]
def yP(s:ByteArray):ByteArray:=if Ak s then s.extract 1 s.size else s
theorem uQ(s:ByteArray):(yP s).data.toList=kG s:=by
 unfold yP kG;split
 ·rw[EW]
 ·rfl
theorem MR{s:ByteArray}(h0:0<s.size)(h:s[0]=45):Ak s=true:=by
 unfold Ak;rw[vN s 0 h0,h];simp[h0]
theorem He{s:ByteArray}(h0:¬0<s.size):Ak s=false:=by simp[Ak,h0]
theorem G9{s:ByteArray}(h0:0<s.size)(h:s[0]≠45):Ak s=false:=by
 unfold Ak;rw[vN s 0 h0];simp[h]
theorem pO(s:ByteArray):s.data.toList.length=s.size:=by simp
theorem EI{s:ByteArray}{i:Nat}(h:i<s.size):s[i]∈s.data.toList:=by
 have:s.data.toList[i]'(by simpa using h)=s[i]:=rfl;rw[← this];exact List.getElem_mem _
theorem zn{s:ByteArray}{i:Nat}(h:i<s.size):s.data.toList.take (i+1)=s.data.toList.take i++ [s[i]]:=List.take_succ_eq_append_getElem (by simpa using h)
theorem vT{l:List UInt8}{i m:Nat}(hd:∀c∈l.take i,oD c=true)(hi:i≤m):gY 0 (l.take i)<10 ^ m:=by
 have h:=BG (l.take i) 0 0 hd (by simp);rw[Nat.zero_add]at h;exact Nat.lt_of_lt_of_le h (Nat.pow_le_pow_right (by decide) (by rw[List.length_take];omega))
theorem KQ{c:UInt8}(h:(c.toNat:Int)<48):oD c=false:=by simp[oD];omega
theorem KR{c:UInt8}(h:(c.toNat:Int) > 57):oD c=false:=by simp[oD];omega
theorem KP{c:UInt8}(h1:¬(c.toNat:Int)<48)(h2:¬(c.toNat:Int) > 57):oD c=true:=by simp[oD];omega
def vI :IC:=(zd_ [zk_ 4 0,zj_ 5 false] (zd_ [zw_ 10 0,zf_ 11 true 10,zm_ 12 .gtr 11 0,zw_ 13 12,zv_ 14 13 0,zy_ 15 13 (.sidx (.t 14) (.k (.int .i64 0))),zy_ 16 13 (.bin .eql (.t 15) (.k (.int .u8 45))),zh_ 17 13 16 false,zw_ 6 17] (zd_ [zw_ 18 0,zw_ 7 18] (.seq (zd_ [zw_ 19 6] (.cond (.t 19) (.reg false [zw_ 20 0,zz_ 21 (.ssl (.t 20) (some (.k (.int .i64 1))) none),zw_ 7 21]) .skip)) (.seq (zd_ [zw_ 22 7,zf_ 23 true 22,zm_ 24 .lss 23 1,zw_ 25 24,zu_ 26 25 7,zx_ 27 25 (.len true (.t 26)),zu_ 28 25 1,zx_ 29 25 (.bin .gtr (.t 27) (.t 28)),zg_ 30 25 true 29] (.cond (.t 30) (zd_ [zk_ 4 0,zj_ 5 false] .ret) .skip)) (zd_ [zk_ 8 0] (.seq (zd_ [zk_ 9 0] (.block 0 (.loop (.seq (zd_ [zw_ 31 9,zw_ 32 7,zf_ 33 true 32,zl_ 34 .lss 31 33] (.cond (.t 34) .skip (.exit 0))) (.seq (.block 1 (.seq (zd_ [zw_ 37 7,zw_ 38 9,zz_ 39 (.sidx (.t 37) (.t 38)),zz_ 40 (.bin .lss (.t 39) (.k (.int .u8 48))),zw_ 41 40,zu_ 42 41 7,zu_ 43 41 9,zx_ 44 41 (.sidx (.t 42) (.t 43)),zx_ 45 41 (.bin .gtr (.t 44) (.k (.int .u8 57))),zg_ 46 41 true 45] (.cond (.t 46) (zd_ [zk_ 4 0,zj_ 5 false] .ret) .skip)) (.reg false [zw_ 47 8,zz_ 48 (.bin .mul (.k (.int .i64 10)) (.t 47)),zw_ 49 7,zw_ 50 9,zz_ 51 (.sidx (.t 49) (.t 50)),zz_ 52 (.bin .sub (.t 51) (.k (.int .u8 48))),zz_ 53 (.cvi .i64 (.t 52)),zl_ 54 .add 48 53,zw_ 8 54]))) (.reg false [zw_ 35 9,zm_ 36 .add 35 1,zw_ 9 36])))))) (.seq (zd_ [zw_ 55 6] (.cond (.t 55) (.reg false [zw_ 56 8,zz_ 57 (.bin .sub (.k (.int .i64 0)) (.t 56)),zw_ 8 57]) .skip)) (.seq (zd_ [zw_ 58 8,zq_ 59 68 58,zw_ 60 0,zl_ 61 .neq 59 60] (.cond (.t 61) (zd_ [zk_ 4 0,zj_ 5 false] .ret) .skip)) (zd_ [zw_ 62 8,zw_ 4 62,zj_ 5 true] .ret))))))))))
theorem y5 :dG Tryz.prog (Tryz.f110.body.getD .skip)=some vI:=by kernel_rfl
theorem MQ(s:ByteArray)(m:Nat)(hm1:1≤m)(hm18:m≤18)(hs:s.size≤1048576):dN Tryz.prog 110 [ls s,li m] (Jf (rdS m s)):=by
 refine kF (fn:=Tryz.f110) (r:= .tmp 4) (q:= .tmp 5) (by kernel_rfl) (by kernel_rfl) (by kernel_rfl) rfl y5 ?_;unfold vI;refine zb_ ?_;change AWP _ _ _ (st0 63 _);simp only[undef,stS,st0,stN,D.av,D.avN,cO,aS,dh,cZ,aK,eU,aJ,aI,t_,v_,s_,p_,r_,q_,m_,d_,e_];by_cases h0:0<s.size
 ·have d0:decide ((s.size:Int) > 0)=true:=decide_eq_true (by omega);have hsx:=sZ h0;have hz0:(0:Int).toNat=0:=rfl;have hz1:((0:Int)≤0)=True:=by simp
  by_cases hc:s[0]=45
  ·have hmi:=MR h0 hc;have he:((s[0].toNat:Int)==45)=true:=by rw[hc];rfl
   obtain⟨tb,htb⟩:∃tb,yP s=tb:=⟨_,rfl⟩
   have hex:s.extract 1 s.size=tb:=by rw[← htb];unfold yP;rw[if_pos hmi]
   have hbl:tb.data.toList=kG s:=(congrArg (fun z:ByteArray=>z.data.toList) htb).symm.trans (uQ s);have hbn:=pO tb;rw[hbl]at hbn;have htz:tb.size≤1048576:=by rw[← hex];simp;omega
   by_cases h1:tb.size<1
   ·have hr:rdS m s=(0,false):=zu hm18 (Or.inl (by omega)) hm1;have g1:decide ((tb.size:Int)<1)=true:=decide_eq_true (by omega);rw[hr]
    repeat' (first|(with_reducible first|refine bW ?_|refine bn ?_|refine bG ?_|refine bH ?_|refine bZ ?_|refine dQ ?_|refine bC ?_|refine bU ?_|refine aO ?_|refine aY ?_|refine bF ?_|refine aW ?_|refine bD ?_|refine aQ ?_|refine aV ?_)|((with_reducible refine aX ?_ ?_);rfl)|((with_reducible refine aZ ?_ ?_);rfl)|((with_reducible refine bg ?_ ?_);rfl)|(with_reducible (refine bf rfl ?_ ?_);all_goals(intro hb;have hb':=hb;(try simp only[pkC]at hb');try(exfalso;omega)))|(refine rg_ ?_;intro K hK)|((with_reducible refine dw ?_ ?_);rfl)|((with_reducible refine dA ?_ ?_);(rfl;try simp only[St.put,undef,pkA,d_,e_,a_,b_]))|(with_reducible (refine dB rfl ?_ ?_);all_goals(intro hb;have hb':=hb;(try simp only[pkC]at hb');try(exfalso;omega)))|(refine hq_ ?_;clear hK K)|refine ca_ ?_ ?_|((with_reducible refine dP ?_);simp(disch:=first|decide|omega) only[↓pkS,pkW,pkA,undef,g_,h_,i_,bJ,dS,lvD,dU,lcD,lvK,lcK,bI,dn,bK,ex,St.put,St.ev,kav,gdA,opI,dK,dW,dD,dR,dV,AV.toD,AC.toD,AV.nw,AC.nw,AC.one,c_,aG,ak,aB,aF,aN,aH,if_true,if_false,f_,dF,D.one,D.ones,D.sz,D.szs,d_,e_,a_,b_,reduceIte,pkN,aJ,aI,aK,aC,aA,d0,hsx,hz0,hz1,he,hex,g1])|(first|(with_reducible rfl)|(with_reducible refine bV ?_;kernel_rfl)|exact aA _|exact aC _|exact el_ln _|exact el_tk _ _|exact el_td _ _ _|omega|(simp;done)|(simp;omega))|((with_reducible refine cu ?_);simp[bM,dM,dJ,dY,AC.toD,aG,ak,aB,aF,c_,bP,aU,bT,bQ,cO,aS,dh,cZ,eF,eG,aJ,aI,aK,aC,aA,d0,hsx,hz0,hz1,he,hex,g1];first|done|rfl))
    exact dX ⟨⟨_,rfl,rfl,trivial⟩,⟨_,rfl,rfl,trivial⟩⟩
   have g1:decide ((tb.size:Int)<1)=false:=decide_eq_false (by omega);by_cases h2:m<tb.size
   ·have hr:rdS m s=(0,false):=zu hm18 (Or.inr (by omega)) hm1;have g2:decide ((tb.size:Int) >(m:Int))=true:=decide_eq_true (by omega);rw[hr]
    repeat' (first|(with_reducible first|refine bW ?_|refine bn ?_|refine bG ?_|refine bH ?_|refine bZ ?_|refine dQ ?_|refine bC ?_|refine bU ?_|refine aO ?_|refine aY ?_|refine bF ?_|refine aW ?_|refine bD ?_|refine aQ ?_|refine aV ?_)|((with_reducible refine aX ?_ ?_);rfl)|((with_reducible refine aZ ?_ ?_);rfl)|((with_reducible refine bg ?_ ?_);rfl)|(with_reducible (refine bf rfl ?_ ?_);all_goals(intro hb;have hb':=hb;(try simp only[pkC]at hb');try(exfalso;omega)))|(refine rg_ ?_;intro K hK)|((with_reducible refine dw ?_ ?_);rfl)|((with_reducible refine dA ?_ ?_);(rfl;try simp only[St.put,undef,pkA,d_,e_,a_,b_]))|(with_reducible (refine dB rfl ?_ ?_);all_goals(intro hb;have hb':=hb;(try simp only[pkC]at hb');try(exfalso;omega)))|(refine hq_ ?_;clear hK K)|refine ca_ ?_ ?_|((with_reducible refine dP ?_);simp(disch:=first|decide|omega) only[↓pkS,pkW,pkA,undef,g_,h_,i_,bJ,dS,lvD,dU,lcD,lvK,lcK,bI,dn,bK,ex,St.put,St.ev,kav,gdA,opI,dK,dW,dD,dR,dV,AV.toD,AC.toD,AV.nw,AC.nw,AC.one,c_,aG,ak,aB,aF,aN,aH,if_true,if_false,f_,dF,D.one,D.ones,D.sz,D.szs,d_,e_,a_,b_,reduceIte,pkN,aJ,aI,aK,aC,aA,d0,hsx,hz0,hz1,he,hex,g1,g2])|(first|(with_reducible rfl)|(with_reducible refine bV ?_;kernel_rfl)|exact aA _|exact aC _|exact el_ln _|exact el_tk _ _|exact el_td _ _ _|omega|(simp;done)|(simp;omega))|((with_reducible refine cu ?_);simp[bM,dM,dJ,dY,AC.toD,aG,ak,aB,aF,c_,bP,aU,bT,bQ,cO,aS,dh,cZ,eF,eG,aJ,aI,aK,aC,aA,d0,hsx,hz0,hz1,he,hex,g1,g2];first|done|rfl))
    exact dX ⟨⟨_,rfl,rfl,trivial⟩,⟨_,rfl,rfl,trivial⟩⟩
   have g2:decide ((tb.size:Int) >(m:Int))=false:=decide_eq_false (by omega)
   repeat' (first|(with_reducible first|refine bW ?_|refine bn ?_|refine bG ?_|refine bH ?_|refine bZ ?_|refine dQ ?_|refine bC ?_|refine bU ?_|refine aO ?_|refine aY ?_|refine bF ?_|refine aW ?_|refine bD ?_|refine aQ ?_|refine aV ?_)|((with_reducible refine aX ?_ ?_);rfl)|((with_reducible refine aZ ?_ ?_);rfl)|((with_reducible refine bg ?_ ?_);rfl)|(with_reducible (refine bf rfl ?_ ?_);all_goals(intro hb;have hb':=hb;(try simp only[pkC]at hb');try(exfalso;omega)))|(refine rg_ ?_;intro K hK)|((with_reducible refine dw ?_ ?_);rfl)|((with_reducible refine dA ?_ ?_);(rfl;try simp only[St.put,undef,pkA,d_,e_,a_,b_]))|(with_reducible (refine dB rfl ?_ ?_);all_goals(intro hb;have hb':=hb;(try simp only[pkC]at hb');try(exfalso;omega)))|(refine hq_ ?_;clear hK K)|refine ca_ ?_ ?_|((with_reducible refine dP ?_);simp(disch:=first|decide|omega) only[↓pkS,pkW,pkA,undef,g_,h_,i_,bJ,dS,lvD,dU,lcD,lvK,lcK,bI,dn,bK,ex,St.put,St.ev,kav,gdA,opI,dK,dW,dD,dR,dV,AV.toD,AC.toD,AV.nw,AC.nw,AC.one,c_,aG,ak,aB,aF,aN,aH,if_true,if_false,f_,dF,D.one,D.ones,D.sz,D.szs,d_,e_,a_,b_,reduceIte,pkN,aJ,aI,aK,aC,aA,d0,hsx,hz0,hz1,he,hex,g1,g2])|(first|(with_reducible rfl)|(with_reducible refine bV ?_;kernel_rfl)|exact aA _|exact aC _|exact el_ln _|exact el_tk _ _|exact el_td _ _ _|omega|(simp;done)|(simp;omega))|((with_reducible refine cu ?_);simp[bM,dM,dJ,dY,AC.toD,aG,ak,aB,aF,c_,bP,aU,bT,bQ,cO,aS,dh,cZ,eF,eG,aJ,aI,aK,aC,aA,d0,hsx,hz0,hz1,he,hex,g1,g2];first|done|rfl))
   clear g1 g2 d0 hsx hz0 hz1 he;refine fQ (X:=Nat) (fun q=> [.k,.d,.d,.d,.d,.d,.k,.k,.v (.c false [.raw (.int .i64 (gY 0 (tb.data.toList.take q):Nat))]),.v (.c false [.raw (.int .i64 (q:Nat))])]) (fun q=> []) (fun q bs=> []) (fun q=>q≤tb.size∧∀c∈tb.data.toList.take q,oD c=true) (fun q=>tb.size - q) 0 ⟨o_ _,fun c hc=>by simp at hc⟩ ?_ ?_
   ·simp[fB,iE,fC,fD,AV.fits,AC.fits,FB,eX,kZ]
   rintro i ⟨hi,hdg⟩;simp only[FB,eX];have hp18:(10:Nat) ^ 18=1000000000000000000:=by decide
   by_cases hlt:i<tb.size
   ·have hsx:=sZ hlt;by_cases c1:(tb[i].toNat:Int)<48
    ·have hr:rdS m s=(0,false):=zx (by rw[← hbl];exact EI hlt) (KQ c1);have b1:decide ((tb[i].toNat:Int)<48)=true:=decide_eq_true c1;rw[hr]
     repeat' (first|(with_reducible first|refine bW ?_|refine bn ?_|refine bG ?_|refine bH ?_|refine bZ ?_|refine dQ ?_|refine bC ?_|refine bU ?_|refine aO ?_|refine aY ?_|refine bF ?_|refine aW ?_|refine bD ?_|refine aQ ?_|refine aV ?_)|((with_reducible refine aX ?_ ?_);rfl)|((with_reducible refine aZ ?_ ?_);rfl)|((with_reducible refine bg ?_ ?_);rfl)|(with_reducible (refine bf rfl ?_ ?_);all_goals(intro hb;have hb':=hb;(try simp only[pkC]at hb');try(exfalso;omega)))|(refine rg_ ?_;intro K hK)|((with_reducible refine dw ?_ ?_);rfl)|((with_reducible refine dA ?_ ?_);(rfl;try simp only[St.put,undef,pkA,d_,e_,a_,b_]))|(with_reducible (refine dB rfl ?_ ?_);all_goals(intro hb;have hb':=hb;(try simp only[pkC]at hb');try(exfalso;omega)))|(refine hq_ ?_;clear hK K)|refine ca_ ?_ ?_|((with_reducible refine dP ?_);simp(disch:=first|decide|omega) only[↓pkS,pkW,pkA,undef,g_,h_,i_,bJ,dS,lvD,dU,lcD,lvK,lcK,bI,dn,bK,ex,St.put,St.ev,kav,gdA,opI,dK,dW,dD,dR,dV,AV.toD,AC.toD,AV.nw,AC.nw,AC.one,c_,aG,ak,aB,aF,aN,aH,if_true,if_false,f_,dF,D.one,D.ones,D.sz,D.szs,d_,e_,a_,b_,reduceIte,pkN,aJ,aI,aK,aC,aA,hsx,zle,j_,b1])|(first|(with_reducible rfl)|(with_reducible refine bV ?_;kernel_rfl)|exact aA _|exact aC _|exact el_ln _|exact el_tk _ _|exact el_td _ _ _|omega|(simp;done)|(simp;omega))|((with_reducible refine cu ?_);simp[bM,dM,dJ,dY,AC.toD,aG,ak,aB,aF,c_,bP,aU,bT,bQ,cO,aS,dh,cZ,eF,eG,aJ,aI,aK,aC,aA,hsx,zle,j_,b1];first|done|rfl))
     exact dX ⟨⟨_,rfl,rfl,trivial⟩,⟨_,rfl,rfl,trivial⟩⟩
    have b1:decide ((tb[i].toNat:Int)<48)=false:=decide_eq_false c1;by_cases c2:(tb[i].toNat:Int) > 57
    ·have hr:rdS m s=(0,false):=zx (by rw[← hbl];exact EI hlt) (KR c2);have b2:decide ((tb[i].toNat:Int) > 57)=true:=decide_eq_true c2;rw[hr]
     repeat' (first|(with_reducible first|refine bW ?_|refine bn ?_|refine bG ?_|refine bH ?_|refine bZ ?_|refine dQ ?_|refine bC ?_|refine bU ?_|refine aO ?_|refine aY ?_|refine bF ?_|refine aW ?_|refine bD ?_|refine aQ ?_|refine aV ?_)|((with_reducible refine aX ?_ ?_);rfl)|((with_reducible refine aZ ?_ ?_);rfl)|((with_reducible refine bg ?_ ?_);rfl)|(with_reducible (refine bf rfl ?_ ?_);all_goals(intro hb;have hb':=hb;(try simp only[pkC]at hb');try(exfalso;omega)))|(refine rg_ ?_;intro K hK)|((with_reducible refine dw ?_ ?_);rfl)|((with_reducible refine dA ?_ ?_);(rfl;try simp only[St.put,undef,pkA,d_,e_,a_,b_]))|(with_reducible (refine dB rfl ?_ ?_);all_goals(intro hb;have hb':=hb;(try simp only[pkC]at hb');try(exfalso;omega)))|(refine hq_ ?_;clear hK K)|refine ca_ ?_ ?_|((with_reducible refine dP ?_);simp(disch:=first|decide|omega) only[↓pkS,pkW,pkA,undef,g_,h_,i_,bJ,dS,lvD,dU,lcD,lvK,lcK,bI,dn,bK,ex,St.put,St.ev,kav,gdA,opI,dK,dW,dD,dR,dV,AV.toD,AC.toD,AV.nw,AC.nw,AC.one,c_,aG,ak,aB,aF,aN,aH,if_true,if_false,f_,dF,D.one,D.ones,D.sz,D.szs,d_,e_,a_,b_,reduceIte,pkN,aJ,aI,aK,aC,aA,hsx,zle,j_,b1,b2])|(first|(with_reducible rfl)|(with_reducible refine bV ?_;kernel_rfl)|exact aA _|exact aC _|exact el_ln _|exact el_tk _ _|exact el_td _ _ _|omega|(simp;done)|(simp;omega))|((with_reducible refine cu ?_);simp[bM,dM,dJ,dY,AC.toD,aG,ak,aB,aF,c_,bP,aU,bT,bQ,cO,aS,dh,cZ,eF,eG,aJ,aI,aK,aC,aA,hsx,zle,j_,b1,b2];first|done|rfl))
     exact dX ⟨⟨_,rfl,rfl,trivial⟩,⟨_,rfl,rfl,trivial⟩⟩
    have b2:decide ((tb[i].toNat:Int) > 57)=false:=decide_eq_false c2;have hdn:∀c∈tb.data.toList.take (i+1),oD c=true:=fun c hc=>by
     rw[zn hlt]at hc;rcases A_.1 hc with hc|hc
     ·exact hdg c hc
     ·simp only[n_]at hc;subst hc;exact KP c1 c2
    have hnx:gY 0 (tb.data.toList.take (i+1))=gY 0 (tb.data.toList.take i)*10+(tb[i].toNat - 48):=by rw[zn hlt,sW,iK,kZ]
    have hv1:=vT (m:=18) hdn (by omega);rw[hnx,hp18]at hv1;have w1:IntKind.i64.wrap (10*((gY 0 (tb.data.toList.take i):Nat):Int))=((gY 0 (tb.data.toList.take i)*10:Nat):Int):=by rw[jv (by omega) (by omega)];omega
    have w2:IntKind.u8.wrap ((tb[i].toNat:Int) - 48)=((tb[i].toNat - 48:Nat):Int):=by rw[zl (by omega) (by omega)];omega
    have w3:IntKind.i64.wrap ((tb[i].toNat - 48:Nat):Int)=((tb[i].toNat - 48:Nat):Int):=jv (by omega) (by omega);have w4:IntKind.i64.wrap (((gY 0 (tb.data.toList.take i)*10:Nat):Int)+((tb[i].toNat - 48:Nat):Int))=((gY 0 (tb.data.toList.take (i+1)):Nat):Int):=by rw[hnx,jv (by omega) (by omega)];omega
    clear hnx
    repeat' (first|(with_reducible first|refine bW ?_|refine bn ?_|refine bG ?_|refine bH ?_|refine bZ ?_|refine dQ ?_|refine bC ?_|refine bU ?_|refine aO ?_|refine aY ?_|refine bF ?_|refine aW ?_|refine bD ?_|refine aQ ?_|refine aV ?_)|((with_reducible refine aX ?_ ?_);rfl)|((with_reducible refine aZ ?_ ?_);rfl)|((with_reducible refine bg ?_ ?_);rfl)|(with_reducible (refine bf rfl ?_ ?_);all_goals(intro hb;have hb':=hb;(try simp only[pkC]at hb');try(exfalso;omega)))|(refine rg_ ?_;intro K hK)|((with_reducible refine dw ?_ ?_);rfl)|((with_reducible refine dA ?_ ?_);(rfl;try simp only[St.put,undef,pkA,d_,e_,a_,b_]))|(with_reducible (refine dB rfl ?_ ?_);all_goals(intro hb;have hb':=hb;(try simp only[pkC]at hb');try(exfalso;omega)))|(refine hq_ ?_;clear hK K)|refine ca_ ?_ ?_|((with_reducible refine dP ?_);simp(disch:=first|decide|omega) only[↓pkS,pkW,pkA,undef,g_,h_,i_,bJ,dS,lvD,dU,lcD,lvK,lcK,bI,dn,bK,ex,St.put,St.ev,kav,gdA,opI,dK,dW,dD,dR,dV,AV.toD,AC.toD,AV.nw,AC.nw,AC.one,c_,aG,ak,aB,aF,aN,aH,if_true,if_false,f_,dF,D.one,D.ones,D.sz,D.szs,d_,e_,a_,b_,reduceIte,pkN,aJ,aI,aK,aC,aA,hsx,zle,j_,b1,b2,w1,w2,w3,w4])|(first|(with_reducible rfl)|(with_reducible refine bV ?_;kernel_rfl)|exact aA _|exact aC _|exact el_ln _|exact el_tk _ _|exact el_td _ _ _|omega|(simp;done)|(simp;omega))|((with_reducible refine cu ?_);simp[bM,dM,dJ,dY,AC.toD,aG,ak,aB,aF,c_,bP,aU,bT,bQ,cO,aS,dh,cZ,eF,eG,aJ,aI,aK,aC,aA,hsx,zle,j_,b1,b2,w1,w2,w3,w4];first|done|rfl))
    refine gU (i+1) ?_ ⟨show i+1≤tb.size by omega,hdn⟩ (show tb.size - (i+1)<tb.size - i by omega);simp[fB,iE,fC,fD,AV.fits,AC.fits,FB,eX]
   obtain rfl:i=tb.size:=by omega
   have htk:tb.data.toList.take tb.size=kG s:=by rw[← pO tb,y_,hbl]
   have hv1:=vT (m:=18) hdg (by omega);rw[hp18]at hv1;rw[htk]at hdg hv1⊢;have hval:qj s= -((gY 0 (kG s):Nat):Int):=by unfold qj;rw[hmi];rfl
   have w5:IntKind.i64.wrap (0 - ((gY 0 (kG s):Nat):Int))= -((gY 0 (kG s):Nat):Int):=by rw[jv (by omega) (by omega)];omega
   have hfi:=oQ (n:=qj s) (by rw[hval];omega) (by rw[hval];omega);rw[hval]at hfi;cases hq:((kN (qj s)).toList==s.toList)with
   | true=>
     have heq:kN (qj s)=s:=xB.1 (by simpa using hq);have hr:=Oy (m:=m) hm18 hdg (by omega) heq;rw[hr,hval];rw[hval]at hq
     repeat' (first|(with_reducible first|refine bW ?_|refine bn ?_|refine bG ?_|refine bH ?_|refine bZ ?_|refine dQ ?_|refine bC ?_|refine bU ?_|refine aO ?_|refine aY ?_|refine bF ?_|refine aW ?_|refine bD ?_|refine aQ ?_|refine aV ?_)|((with_reducible refine aX ?_ ?_);rfl)|((with_reducible refine aZ ?_ ?_);rfl)|((with_reducible refine bg ?_ ?_);rfl)|(with_reducible (refine bf rfl ?_ ?_);all_goals(intro hb;have hb':=hb;(try simp only[pkC]at hb');try(exfalso;omega)))|(refine rg_ ?_;intro K hK)|((with_reducible refine dw ?_ ?_);rfl)|((with_reducible refine dA ?_ ?_);(rfl;try simp only[St.put,undef,pkA,d_,e_,a_,b_]))|(with_reducible (refine dB rfl ?_ ?_);all_goals(intro hb;have hb':=hb;(try simp only[pkC]at hb');try(exfalso;omega)))|(refine hq_ ?_;clear hK K)|refine ca_ ?_ ?_|(refine cg_ ?_;first|refine cT_ hfi ?_)|((with_reducible refine dP ?_);simp(disch:=first|decide|omega) only[↓pkS,pkW,pkA,undef,g_,h_,i_,bJ,dS,lvD,dU,lcD,lvK,lcK,bI,dn,bK,ex,St.put,St.ev,kav,gdA,opI,dK,dW,dD,dR,dV,AV.toD,AC.toD,AV.nw,AC.nw,AC.one,c_,aG,ak,aB,aF,aN,aH,if_true,if_false,f_,dF,D.one,D.ones,D.sz,D.szs,d_,e_,a_,b_,reduceIte,pkN,aJ,aI,aK,aC,aA,w5,hq])|(first|(with_reducible rfl)|(with_reducible refine bV ?_;kernel_rfl)|exact aA _|exact aC _|exact el_ln _|exact el_tk _ _|exact el_td _ _ _|omega|(simp;done)|(simp;omega))|((with_reducible refine cu ?_);simp[bM,dM,dJ,dY,AC.toD,aG,ak,aB,aF,c_,bP,aU,bT,bQ,cO,aS,dh,cZ,eF,eG,aJ,aI,aK,aC,aA,w5,hq];first|done|rfl))
     exact dX ⟨⟨_,rfl,rfl,trivial⟩,⟨_,rfl,rfl,trivial⟩⟩
   | false=>
     have hne:kN (qj s)≠s:=fun e=>by rw[e]at hq;simp at hq
     have hr:=J8 (m:=m) hne;rw[hr];rw[hval]at hq
     repeat' (first|(with_reducible first|refine bW ?_|refine bn ?_|refine bG ?_|refine bH ?_|refine bZ ?_|refine dQ ?_|refine bC ?_|refine bU ?_|refine aO ?_|refine aY ?_|refine bF ?_|refine aW ?_|refine bD ?_|refine aQ ?_|refine aV ?_)|((with_reducible refine aX ?_ ?_);rfl)|((with_reducible refine aZ ?_ ?_);rfl)|((with_reducible refine bg ?_ ?_);rfl)|(with_reducible (refine bf rfl ?_ ?_);all_goals(intro hb;have hb':=hb;(try simp only[pkC]at hb');try(exfalso;omega)))|(refine rg_ ?_;intro K hK)|((with_reducible refine dw ?_ ?_);rfl)|((with_reducible refine dA ?_ ?_);(rfl;try simp only[St.put,undef,pkA,d_,e_,a_,b_]))|(with_reducible (refine dB rfl ?_ ?_);all_goals(intro hb;have hb':=hb;(try simp only[pkC]at hb');try(exfalso;omega)))|(refine hq_ ?_;clear hK K)|refine ca_ ?_ ?_|(refine cg_ ?_;first|refine cT_ hfi ?_)|((with_reducible refine dP ?_);simp(disch:=first|decide|omega) only[↓pkS,pkW,pkA,undef,g_,h_,i_,bJ,dS,lvD,dU,lcD,lvK,lcK,bI,dn,bK,ex,St.put,St.ev,kav,gdA,opI,dK,dW,dD,dR,dV,AV.toD,AC.toD,AV.nw,AC.nw,AC.one,c_,aG,ak,aB,aF,aN,aH,if_true,if_false,f_,dF,D.one,D.ones,D.sz,D.szs,d_,e_,a_,b_,reduceIte,pkN,aJ,aI,aK,aC,aA,w5,hq])|(first|(with_reducible rfl)|(with_reducible refine bV ?_;kernel_rfl)|exact aA _|exact aC _|exact el_ln _|exact el_tk _ _|exact el_td _ _ _|omega|(simp;done)|(simp;omega))|((with_reducible refine cu ?_);simp[bM,dM,dJ,dY,AC.toD,aG,ak,aB,aF,c_,bP,aU,bT,bQ,cO,aS,dh,cZ,eF,eG,aJ,aI,aK,aC,aA,w5,hq];first|done|rfl))
     exact dX ⟨⟨_,rfl,rfl,trivial⟩,⟨_,rfl,rfl,trivial⟩⟩
  ·have hmi:=G9 h0 hc;have he:((s[0].toNat:Int)==45)=false:=uh (fun e=>hc (UInt8.toNat_inj.1 (by have h45:(45:UInt8).toNat=45:=rfl;omega)));obtain⟨tb,htb⟩:∃tb,yP s=tb:=⟨_,rfl⟩
   have hex:s=tb:=by rw[← htb];unfold yP;rw[if_neg (by rw[hmi];decide)]
   subst hex;have hbl:s.data.toList=kG s:=(congrArg (fun z:ByteArray=>z.data.toList) htb).symm.trans (uQ s);have hbn:=pO s;rw[hbl]at hbn;have htz:s.size≤1048576:=hs;have g1:decide ((s.size:Int)<1)=false:=decide_eq_false (by omega);by_cases h2:m<s.size
   ·have hr:rdS m s=(0,false):=zu hm18 (Or.inr (by omega)) hm1;have g2:decide ((s.size:Int) >(m:Int))=true:=decide_eq_true (by omega);rw[hr]
    repeat' (first|(with_reducible first|refine bW ?_|refine bn ?_|refine bG ?_|refine bH ?_|refine bZ ?_|refine dQ ?_|refine bC ?_|refine bU ?_|refine aO ?_|refine aY ?_|refine bF ?_|refine aW ?_|refine bD ?_|refine aQ ?_|refine aV ?_)|((with_reducible refine aX ?_ ?_);rfl)|((with_reducible refine aZ ?_ ?_);rfl)|((with_reducible refine bg ?_ ?_);rfl)|(with_reducible (refine bf rfl ?_ ?_);all_goals(intro hb;have hb':=hb;(try simp only[pkC]at hb');try(exfalso;omega)))|(refine rg_ ?_;intro K hK)|((with_reducible refine dw ?_ ?_);rfl)|((with_reducible refine dA ?_ ?_);(rfl;try simp only[St.put,undef,pkA,d_,e_,a_,b_]))|(with_reducible (refine dB rfl ?_ ?_);all_goals(intro hb;have hb':=hb;(try simp only[pkC]at hb');try(exfalso;omega)))|(refine hq_ ?_;clear hK K)|refine ca_ ?_ ?_|((with_reducible refine dP ?_);simp(disch:=first|decide|omega) only[↓pkS,pkW,pkA,undef,g_,h_,i_,bJ,dS,lvD,dU,lcD,lvK,lcK,bI,dn,bK,ex,St.put,St.ev,kav,gdA,opI,dK,dW,dD,dR,dV,AV.toD,AC.toD,AV.nw,AC.nw,AC.one,c_,aG,ak,aB,aF,aN,aH,if_true,if_false,f_,dF,D.one,D.ones,D.sz,D.szs,d_,e_,a_,b_,reduceIte,pkN,aJ,aI,aK,aC,aA,d0,hsx,hz0,hz1,he,g1,g2])|(first|(with_reducible rfl)|(with_reducible refine bV ?_;kernel_rfl)|exact aA _|exact aC _|exact el_ln _|exact el_tk _ _|exact el_td _ _ _|omega|(simp;done)|(simp;omega))|((with_reducible refine cu ?_);simp[bM,dM,dJ,dY,AC.toD,aG,ak,aB,aF,c_,bP,aU,bT,bQ,cO,aS,dh,cZ,eF,eG,aJ,aI,aK,aC,aA,d0,hsx,hz0,hz1,he,g1,g2];first|done|rfl))
    exact dX ⟨⟨_,rfl,rfl,trivial⟩,⟨_,rfl,rfl,trivial⟩⟩
   have g2:decide ((s.size:Int) >(m:Int))=false:=decide_eq_false (by omega)
   repeat' (first|(with_reducible first|refine bW ?_|refine bn ?_|refine bG ?_|refine bH ?_|refine bZ ?_|refine dQ ?_|refine bC ?_|refine bU ?_|refine aO ?_|refine aY ?_|refine bF ?_|refine aW ?_|refine bD ?_|refine aQ ?_|refine aV ?_)|((with_reducible refine aX ?_ ?_);rfl)|((with_reducible refine aZ ?_ ?_);rfl)|((with_reducible refine bg ?_ ?_);rfl)|(with_reducible (refine bf rfl ?_ ?_);all_goals(intro hb;have hb':=hb;(try simp only[pkC]at hb');try(exfalso;omega)))|(refine rg_ ?_;intro K hK)|((with_reducible refine dw ?_ ?_);rfl)|((with_reducible refine dA ?_ ?_);(rfl;try simp only[St.put,undef,pkA,d_,e_,a_,b_]))|(with_reducible (refine dB rfl ?_ ?_);all_goals(intro hb;have hb':=hb;(try simp only[pkC]at hb');try(exfalso;omega)))|(refine hq_ ?_;clear hK K)|refine ca_ ?_ ?_|((with_reducible refine dP ?_);simp(disch:=first|decide|omega) only[↓pkS,pkW,pkA,undef,g_,h_,i_,bJ,dS,lvD,dU,lcD,lvK,lcK,bI,dn,bK,ex,St.put,St.ev,kav,gdA,opI,dK,dW,dD,dR,dV,AV.toD,AC.toD,AV.nw,AC.nw,AC.one,c_,aG,ak,aB,aF,aN,aH,if_true,if_false,f_,dF,D.one,D.ones,D.sz,D.szs,d_,e_,a_,b_,reduceIte,pkN,aJ,aI,aK,aC,aA,d0,hsx,hz0,hz1,he,g1,g2])|(first|(with_reducible rfl)|(with_reducible refine bV ?_;kernel_rfl)|exact aA _|exact aC _|exact el_ln _|exact el_tk _ _|exact el_td _ _ _|omega|(simp;done)|(simp;omega))|((with_reducible refine cu ?_);simp[bM,dM,dJ,dY,AC.toD,aG,ak,aB,aF,c_,bP,aU,bT,bQ,cO,aS,dh,cZ,eF,eG,aJ,aI,aK,aC,aA,d0,hsx,hz0,hz1,he,g1,g2];first|done|rfl))
   clear g1 g2 d0 hsx hz0 hz1 he;refine fQ (X:=Nat) (fun q=> [.k,.d,.d,.d,.d,.d,.k,.k,.v (.c false [.raw (.int .i64 (gY 0 (s.data.toList.take q):Nat))]),.v (.c false [.raw (.int .i64 (q:Nat))])]) (fun q=> []) (fun q bs=> []) (fun q=>q≤s.size∧∀c∈s.data.toList.take q,oD c=true) (fun q=>s.size - q) 0 ⟨o_ _,fun c hc=>by simp at hc⟩ ?_ ?_
   ·simp[fB,iE,fC,fD,AV.fits,AC.fits,FB,eX,kZ]
   rintro i ⟨hi,hdg⟩;simp only[FB,eX];have hp18:(10:Nat) ^ 18=1000000000000000000:=by decide
   by_cases hlt:i<s.size
   ·have hsx:=sZ hlt;by_cases c1:(s[i].toNat:Int)<48
    ·have hr:rdS m s=(0,false):=zx (by rw[← hbl];exact EI hlt) (KQ c1);have b1:decide ((s[i].toNat:Int)<48)=true:=decide_eq_true c1;rw[hr]
     repeat' (first|(with_reducible first|refine bW ?_|refine bn ?_|refine bG ?_|refine bH ?_|refine bZ ?_|refine dQ ?_|refine bC ?_|refine bU ?_|refine aO ?_|refine aY ?_|refine bF ?_|refine aW ?_|refine bD ?_|refine aQ ?_|refine aV ?_)|((with_reducible refine aX ?_ ?_);rfl)|((with_reducible refine aZ ?_ ?_);rfl)|((with_reducible refine bg ?_ ?_);rfl)|(with_reducible (refine bf rfl ?_ ?_);all_goals(intro hb;have hb':=hb;(try simp only[pkC]at hb');try(exfalso;omega)))|(refine rg_ ?_;intro K hK)|((with_reducible refine dw ?_ ?_);rfl)|((with_reducible refine dA ?_ ?_);(rfl;try simp only[St.put,undef,pkA,d_,e_,a_,b_]))|(with_reducible (refine dB rfl ?_ ?_);all_goals(intro hb;have hb':=hb;(try simp only[pkC]at hb');try(exfalso;omega)))|(refine hq_ ?_;clear hK K)|refine ca_ ?_ ?_|((with_reducible refine dP ?_);simp(disch:=first|decide|omega) only[↓pkS,pkW,pkA,undef,g_,h_,i_,bJ,dS,lvD,dU,lcD,lvK,lcK,bI,dn,bK,ex,St.put,St.ev,kav,gdA,opI,dK,dW,dD,dR,dV,AV.toD,AC.toD,AV.nw,AC.nw,AC.one,c_,aG,ak,aB,aF,aN,aH,if_true,if_false,f_,dF,D.one,D.ones,D.sz,D.szs,d_,e_,a_,b_,reduceIte,pkN,aJ,aI,aK,aC,aA,hsx,zle,j_,b1])|(first|(with_reducible rfl)|(with_reducible refine bV ?_;kernel_rfl)|exact aA _|exact aC _|exact el_ln _|exact el_tk _ _|exact el_td _ _ _|omega|(simp;done)|(simp;omega))|((with_reducible refine cu ?_);simp[bM,dM,dJ,dY,AC.toD,aG,ak,aB,aF,c_,bP,aU,bT,bQ,cO,aS,dh,cZ,eF,eG,aJ,aI,aK,aC,aA,hsx,zle,j_,b1];first|done|rfl))
     exact dX ⟨⟨_,rfl,rfl,trivial⟩,⟨_,rfl,rfl,trivial⟩⟩
    have b1:decide ((s[i].toNat:Int)<48)=false:=decide_eq_false c1;by_cases c2:(s[i].toNat:Int) > 57
    ·have hr:rdS m s=(0,false):=zx (by rw[← hbl];exact EI hlt) (KR c2);have b2:decide ((s[i].toNat:Int) > 57)=true:=decide_eq_true c2;rw[hr]
     repeat' (first|(with_reducible first|refine bW ?_|refine bn ?_|refine bG ?_|refine bH ?_|refine bZ ?_|refine dQ ?_|refine bC ?_|refine bU ?_|refine aO ?_|refine aY ?_|refine bF ?_|refine aW ?_|refine bD ?_|refine aQ ?_|refine aV ?_)|((with_reducible refine aX ?_ ?_);rfl)|((with_reducible refine aZ ?_ ?_);rfl)|((with_reducible refine bg ?_ ?_);rfl)|(with_reducible (refine bf rfl ?_ ?_);all_goals(intro hb;have hb':=hb;(try simp only[pkC]at hb');try(exfalso;omega)))|(refine rg_ ?_;intro K hK)|((with_reducible refine dw ?_ ?_);rfl)|((with_reducible refine dA ?_ ?_);(rfl;try simp only[St.put,undef,pkA,d_,e_,a_,b_]))|(with_reducible (refine dB rfl ?_ ?_);all_goals(intro hb;have hb':=hb;(try simp only[pkC]at hb');try(exfalso;omega)))|(refine hq_ ?_;clear hK K)|refine ca_ ?_ ?_|((with_reducible refine dP ?_);simp(disch:=first|decide|omega) only[↓pkS,pkW,pkA,undef,g_,h_,i_,bJ,dS,lvD,dU,lcD,lvK,lcK,bI,dn,bK,ex,St.put,St.ev,kav,gdA,opI,dK,dW,dD,dR,dV,AV.toD,AC.toD,AV.nw,AC.nw,AC.one,c_,aG,ak,aB,aF,aN,aH,if_true,if_false,f_,dF,D.one,D.ones,D.sz,D.szs,d_,e_,a_,b_,reduceIte,pkN,aJ,aI,aK,aC,aA,hsx,zle,j_,b1,b2])|(first|(with_reducible rfl)|(with_reducible refine bV ?_;kernel_rfl)|exact aA _|exact aC _|exact el_ln _|exact el_tk _ _|exact el_td _ _ _|omega|(simp;done)|(simp;omega))|((with_reducible refine cu ?_);simp[bM,dM,dJ,dY,AC.toD,aG,ak,aB,aF,c_,bP,aU,bT,bQ,cO,aS,dh,cZ,eF,eG,aJ,aI,aK,aC,aA,hsx,zle,j_,b1,b2];first|done|rfl))
     exact dX ⟨⟨_,rfl,rfl,trivial⟩,⟨_,rfl,rfl,trivial⟩⟩
    have b2:decide ((s[i].toNat:Int) > 57)=false:=decide_eq_false c2;have hdn:∀c∈s.data.toList.take (i+1),oD c=true:=fun c hc=>by
     rw[zn hlt]at hc;rcases A_.1 hc with hc|hc
     ·exact hdg c hc
     ·simp only[n_]at hc;subst hc;exact KP c1 c2
    have hnx:gY 0 (s.data.toList.take (i+1))=gY 0 (s.data.toList.take i)*10+(s[i].toNat - 48):=by rw[zn hlt,sW,iK,kZ]
    have hv1:=vT (m:=18) hdn (by omega);rw[hnx,hp18]at hv1;have w1:IntKind.i64.wrap (10*((gY 0 (s.data.toList.take i):Nat):Int))=((gY 0 (s.data.toList.take i)*10:Nat):Int):=by rw[jv (by omega) (by omega)];omega
    have w2:IntKind.u8.wrap ((s[i].toNat:Int) - 48)=((s[i].toNat - 48:Nat):Int):=by rw[zl (by omega) (by omega)];omega
    have w3:IntKind.i64.wrap ((s[i].toNat - 48:Nat):Int)=((s[i].toNat - 48:Nat):Int):=jv (by omega) (by omega);have w4:IntKind.i64.wrap (((gY 0 (s.data.toList.take i)*10:Nat):Int)+((s[i].toNat - 48:Nat):Int))=((gY 0 (s.data.toList.take (i+1)):Nat):Int):=by rw[hnx,jv (by omega) (by omega)];omega
    clear hnx
    repeat' (first|(with_reducible first|refine bW ?_|refine bn ?_|refine bG ?_|refine bH ?_|refine bZ ?_|refine dQ ?_|refine bC ?_|refine bU ?_|refine aO ?_|refine aY ?_|refine bF ?_|refine aW ?_|refine bD ?_|refine aQ ?_|refine aV ?_)|((with_reducible refine aX ?_ ?_);rfl)|((with_reducible refine aZ ?_ ?_);rfl)|((with_reducible refine bg ?_ ?_);rfl)|(with_reducible (refine bf rfl ?_ ?_);all_goals(intro hb;have hb':=hb;(try simp only[pkC]at hb');try(exfalso;omega)))|(refine rg_ ?_;intro K hK)|((with_reducible refine dw ?_ ?_);rfl)|((with_reducible refine dA ?_ ?_);(rfl;try simp only[St.put,undef,pkA,d_,e_,a_,b_]))|(with_reducible (refine dB rfl ?_ ?_);all_goals(intro hb;have hb':=hb;(try simp only[pkC]at hb');try(exfalso;omega)))|(refine hq_ ?_;clear hK K)|refine ca_ ?_ ?_|((with_reducible refine dP ?_);simp(disch:=first|decide|omega) only[↓pkS,pkW,pkA,undef,g_,h_,i_,bJ,dS,lvD,dU,lcD,lvK,lcK,bI,dn,bK,ex,St.put,St.ev,kav,gdA,opI,dK,dW,dD,dR,dV,AV.toD,AC.toD,AV.nw,AC.nw,AC.one,c_,aG,ak,aB,aF,aN,aH,if_true,if_false,f_,dF,D.one,D.ones,D.sz,D.szs,d_,e_,a_,b_,reduceIte,pkN,aJ,aI,aK,aC,aA,hsx,zle,j_,b1,b2,w1,w2,w3,w4])|(first|(with_reducible rfl)|(with_reducible refine bV ?_;kernel_rfl)|exact aA _|exact aC _|exact el_ln _|exact el_tk _ _|exact el_td _ _ _|omega|(simp;done)|(simp;omega))|((with_reducible refine cu ?_);simp[bM,dM,dJ,dY,AC.toD,aG,ak,aB,aF,c_,bP,aU,bT,bQ,cO,aS,dh,cZ,eF,eG,aJ,aI,aK,aC,aA,hsx,zle,j_,b1,b2,w1,w2,w3,w4];first|done|rfl))
    refine gU (i+1) ?_ ⟨show i+1≤s.size by omega,hdn⟩ (show s.size - (i+1)<s.size - i by omega);simp[fB,iE,fC,fD,AV.fits,AC.fits,FB,eX]
   obtain rfl:i=s.size:=by omega
   have htk:s.data.toList.take s.size=kG s:=by rw[← pO s,y_,hbl]
   have hv1:=vT (m:=18) hdg (by omega);rw[hp18]at hv1;rw[htk]at hdg hv1⊢;have hval:qj s=((gY 0 (kG s):Nat):Int):=by unfold qj;rw[hmi];rfl
   have hfi:=oQ (n:=qj s) (by rw[hval];omega) (by rw[hval];omega);rw[hval]at hfi;cases hq:((kN (qj s)).toList==s.toList)with
   | true=>
     have heq:kN (qj s)=s:=xB.1 (by simpa using hq);have hr:=Oy (m:=m) hm18 hdg (by omega) heq;rw[hr,hval];rw[hval]at hq
     repeat' (first|(with_reducible first|refine bW ?_|refine bn ?_|refine bG ?_|refine bH ?_|refine bZ ?_|refine dQ ?_|refine bC ?_|refine bU ?_|refine aO ?_|refine aY ?_|refine bF ?_|refine aW ?_|refine bD ?_|refine aQ ?_|refine aV ?_)|((with_reducible refine aX ?_ ?_);rfl)|((with_reducible refine aZ ?_ ?_);rfl)|((with_reducible refine bg ?_ ?_);rfl)|(with_reducible (refine bf rfl ?_ ?_);all_goals(intro hb;have hb':=hb;(try simp only[pkC]at hb');try(exfalso;omega)))|(refine rg_ ?_;intro K hK)|((with_reducible refine dw ?_ ?_);rfl)|((with_reducible refine dA ?_ ?_);(rfl;try simp only[St.put,undef,pkA,d_,e_,a_,b_]))|(with_reducible (refine dB rfl ?_ ?_);all_goals(intro hb;have hb':=hb;(try simp only[pkC]at hb');try(exfalso;omega)))|(refine hq_ ?_;clear hK K)|refine ca_ ?_ ?_|(refine cg_ ?_;first|refine cT_ hfi ?_)|((with_reducible refine dP ?_);simp(disch:=first|decide|omega) only[↓pkS,pkW,pkA,undef,g_,h_,i_,bJ,dS,lvD,dU,lcD,lvK,lcK,bI,dn,bK,ex,St.put,St.ev,kav,gdA,opI,dK,dW,dD,dR,dV,AV.toD,AC.toD,AV.nw,AC.nw,AC.one,c_,aG,ak,aB,aF,aN,aH,if_true,if_false,f_,dF,D.one,D.ones,D.sz,D.szs,d_,e_,a_,b_,reduceIte,pkN,aJ,aI,aK,aC,aA,hq])|(first|(with_reducible rfl)|(with_reducible refine bV ?_;kernel_rfl)|exact aA _|exact aC _|exact el_ln _|exact el_tk _ _|exact el_td _ _ _|omega|(simp;done)|(simp;omega))|((with_reducible refine cu ?_);simp[bM,dM,dJ,dY,AC.toD,aG,ak,aB,aF,c_,bP,aU,bT,bQ,cO,aS,dh,cZ,eF,eG,aJ,aI,aK,aC,aA,hq];first|done|rfl))
     exact dX ⟨⟨_,rfl,rfl,trivial⟩,⟨_,rfl,rfl,trivial⟩⟩
   | false=>
     have hne:kN (qj s)≠s:=fun e=>by rw[e]at hq;simp at hq
     have hr:=J8 (m:=m) hne;rw[hr];rw[hval]at hq
     repeat' (first|(with_reducible first|refine bW ?_|refine bn ?_|refine bG ?_|refine bH ?_|refine bZ ?_|refine dQ ?_|refine bC ?_|refine bU ?_|refine aO ?_|refine aY ?_|refine bF ?_|refine aW ?_|refine bD ?_|refine aQ ?_|refine aV ?_)|((with_reducible refine aX ?_ ?_);rfl)|((with_reducible refine aZ ?_ ?_);rfl)|((with_reducible refine bg ?_ ?_);rfl)|(with_reducible (refine bf rfl ?_ ?_);all_goals(intro hb;have hb':=hb;(try simp only[pkC]at hb');try(exfalso;omega)))|(refine rg_ ?_;intro K hK)|((with_reducible refine dw ?_ ?_);rfl)|((with_reducible refine dA ?_ ?_);(rfl;try simp only[St.put,undef,pkA,d_,e_,a_,b_]))|(with_reducible (refine dB rfl ?_ ?_);all_goals(intro hb;have hb':=hb;(try simp only[pkC]at hb');try(exfalso;omega)))|(refine hq_ ?_;clear hK K)|refine ca_ ?_ ?_|(refine cg_ ?_;first|refine cT_ hfi ?_)|((with_reducible refine dP ?_);simp(disch:=first|decide|omega) only[↓pkS,pkW,pkA,undef,g_,h_,i_,bJ,dS,lvD,dU,lcD,lvK,lcK,bI,dn,bK,ex,St.put,St.ev,kav,gdA,opI,dK,dW,dD,dR,dV,AV.toD,AC.toD,AV.nw,AC.nw,AC.one,c_,aG,ak,aB,aF,aN,aH,if_true,if_false,f_,dF,D.one,D.ones,D.sz,D.szs,d_,e_,a_,b_,reduceIte,pkN,aJ,aI,aK,aC,aA,hq])|(first|(with_reducible rfl)|(with_reducible refine bV ?_;kernel_rfl)|exact aA _|exact aC _|exact el_ln _|exact el_tk _ _|exact el_td _ _ _|omega|(simp;done)|(simp;omega))|((with_reducible refine cu ?_);simp[bM,dM,dJ,dY,AC.toD,aG,ak,aB,aF,c_,bP,aU,bT,bQ,cO,aS,dh,cZ,eF,eG,aJ,aI,aK,aC,aA,hq];first|done|rfl))
     exact dX ⟨⟨_,rfl,rfl,trivial⟩,⟨_,rfl,rfl,trivial⟩⟩
 ·have d0:decide ((s.size:Int) > 0)=false:=decide_eq_false (by omega);have hmi:=He h0;obtain⟨tb,htb⟩:∃tb,yP s=tb:=⟨_,rfl⟩
  have hex:s=tb:=by rw[← htb];unfold yP;rw[if_neg (by rw[hmi];decide)]
  have hr:rdS m s=(0,false):=zu hm18 (Or.inl (by rw[← uQ,pO,htb,← hex];omega)) hm1;have g1:decide ((s.size:Int)<1)=true:=decide_eq_true (by omega);rw[hr]
  repeat' (first|(with_reducible first|refine bW ?_|refine bn ?_|refine bG ?_|refine bH ?_|refine bZ ?_|refine dQ ?_|refine bC ?_|refine bU ?_|refine aO ?_|refine aY ?_|refine bF ?_|refine aW ?_|refine bD ?_|refine aQ ?_|refine aV ?_)|((with_reducible refine aX ?_ ?_);rfl)|((with_reducible refine aZ ?_ ?_);rfl)|((with_reducible refine bg ?_ ?_);rfl)|(with_reducible (refine bf rfl ?_ ?_);all_goals(intro hb;have hb':=hb;(try simp only[pkC]at hb');try(exfalso;omega)))|(refine rg_ ?_;intro K hK)|((with_reducible refine dw ?_ ?_);rfl)|((with_reducible refine dA ?_ ?_);(rfl;try simp only[St.put,undef,pkA,d_,e_,a_,b_]))|(with_reducible (refine dB rfl ?_ ?_);all_goals(intro hb;have hb':=hb;(try simp only[pkC]at hb');try(exfalso;omega)))|(refine hq_ ?_;clear hK K)|refine ca_ ?_ ?_|((with_reducible refine dP ?_);simp(disch:=first|decide|omega) only[↓pkS,pkW,pkA,undef,g_,h_,i_,bJ,dS,lvD,dU,lcD,lvK,lcK,bI,dn,bK,ex,St.put,St.ev,kav,gdA,opI,dK,dW,dD,dR,dV,AV.toD,AC.toD,AV.nw,AC.nw,AC.one,c_,aG,ak,aB,aF,aN,aH,if_true,if_false,f_,dF,D.one,D.ones,D.sz,D.szs,d_,e_,a_,b_,reduceIte,pkN,aJ,aI,aK,aC,aA,d0,g1])|(first|(with_reducible rfl)|(with_reducible refine bV ?_;kernel_rfl)|exact aA _|exact aC _|exact el_ln _|exact el_tk _ _|exact el_td _ _ _|omega|(simp;done)|(simp;omega))|((with_reducible refine cu ?_);simp[bM,dM,dJ,dY,AC.toD,aG,ak,aB,aF,c_,bP,aU,bT,bQ,cO,aS,dh,cZ,eF,eG,aJ,aI,aK,aC,aA,d0,g1];first|done|rfl))
  exact dX ⟨⟨_,rfl,rfl,trivial⟩,⟨_,rfl,rfl,trivial⟩⟩
theorem Qg{a b:Int}(h:kN a=kN b):a=b:=by rw[← Ec a,← Ec b,h]
theorem Rw{lo hi a b:Int}(s:ByteArray)(h1:a≤lo)(h2:hi≤b)(ha: -9223372036854775808≤a)(hb:b≤9223372036854775807):
 rdN lo hi s=if(rdN a b s).2=true∧lo≤(rdN a b s).1∧(rdN a b s).1≤hi then((rdN a b s).1,true)else(0,false):=by
 rcases Dw a b s with⟨n,g1,g2,g3,g4⟩|⟨g1,g2⟩
 ·rw[g4];by_cases h:lo≤n∧n≤hi
  ·rw[if_pos ⟨rfl,h.1,h.2⟩];exact vk (by omega) (by omega) h.1 h.2 g3
  ·rw[if_neg (fun hc=>h hc.2)];refine qV fun m m1 m2 m3=> ?_
   have:=Qg (m3.trans g3.symm);subst this;exact h ⟨m1,m2⟩
 ·rw[g2,if_neg (fun hc=>by simp at hc)];exact qV fun m m1 m2 m3=>g1 m (by omega) (by omega) (by omega) (by omega) m3
theorem TT(s:ByteArray):rdS 12 s=rdN (-999999999999) 999999999999 s:=rfl
theorem TU(lo hi:Int)(s:ByteArray):(rdN lo hi s).2=true→lo≤(rdN lo hi s).1∧(rdN lo hi s).1≤hi:=by
 intro h;rcases Dw lo hi s with⟨n,g1,g2,g3,g4⟩|⟨g1,g2⟩
 ·rw[g4];exact⟨g1,g2⟩
 ·rw[g2]at h;cases h
theorem Je(sep:ByteArray)(h1:1≤sep.size):∀(k:Nat) (s:ByteArray),s.size≤k→∀x∈cut sep s,x.size≤s.size:=by
 intro k
 induction k with
 | zero=>
   intro s hs x hx;have hs0:s.size=0:=by omega
   have:cut sep s= [s]:=by
    have:=vU s sep (a:=0) (fun j _ _=>by
     unfold C_;have e:s.data.toList= []:=List.eq_nil_of_length_eq_zero (by simpa using hs0);rw[e,List.drop_nil];have:sep.data.toList≠[]:=fun hn=>by
      have h0:=LK sep;rw[hn,m_]at h0;omega
     cases hq:sep.data.toList with
     |nil=>exact absurd hq this
     |cons a b=>rfl) (o_ _)
    rwa[rJ]at this
   rw[this]at hx;simp only[n_]at hx;subst hx;exact k_ _
 | succ k ih=>
   intro s hs x hx;rcases Lib.index_spec s.data.toList sep.data.toList with⟨h,hn⟩|⟨i,h2,h3,h4,h5⟩
   ·have:=vU s sep (a:=0) (fun j _ hj=>hn j (by simpa using hj)) (o_ _);rw[rJ]at this;rw[this]at hx;simp only[n_]at hx;subst hx;exact k_ _
   ·have hroom:=Lib.index_room s.data.toList sep.data.toList (by omega);rw[h2]at hroom;simp only[LK]at hroom;have:=E5 s sep (a:=0) (i:=i) h1 (o_ _) (by omega) (fun j _ hj=>h5 j hj) h4;rw[rJ]at this;rw[this]at hx;rcases List.mem_cons.1 hx with rfl|hx
    ·simp;omega
    ·have hsz:(s.extract (i+sep.size) s.size).size=s.size - (i+sep.size):=by simp
     have:=ih _ (by omega) x hx;omega
theorem jC{sep s x:ByteArray}(h1:1≤sep.size)(hx:x∈cut sep s):x.size≤s.size:=Je sep h1 s.size s (k_ _) x hx
def AQ :IC:=(zd_ [zk_ 2 0,zj_ 3 false] (zd_ [zw_ 4 0,zn_ 5 110 4 12,zz_ 6 (.ext 0 (.t 5)),zz_ 7 (.ext 1 (.t 5)),zw_ 2 6,zw_ 3 7] .ret))
theorem CZ :dG Tryz.prog (Tryz.f72.body.getD .skip)=some AQ:=by kernel_rfl
theorem pK(s:ByteArray)(hs:s.size≤1048576):dN Tryz.prog 72 [ls s] (Jf (rdS 12 s)):=by
 refine kF (fn:=Tryz.f72) (r:= .tmp 2) (q:= .tmp 3) (by kernel_rfl) (by kernel_rfl) (by kernel_rfl) rfl CZ ?_;unfold AQ;refine zb_ ?_;change AWP _ _ _ (st0 8 _);simp only[undef,stS,st0,stN,D.av,D.avN,cO,aS,dh,cZ,aK,eU,aJ,aI,t_,v_,s_,p_,r_,q_,m_,d_,e_];have hi:=MQ s 12 (by decide) (by decide) hs
 repeat' (first|(with_reducible first|refine bW ?_|refine bn ?_|refine bG ?_|refine bH ?_|refine bZ ?_|refine dQ ?_|refine bC ?_|refine bU ?_|refine aO ?_|refine aY ?_|refine bF ?_|refine aW ?_|refine bD ?_|refine aQ ?_|refine aV ?_)|((with_reducible refine aX ?_ ?_);rfl)|((with_reducible refine aZ ?_ ?_);rfl)|((with_reducible refine bg ?_ ?_);rfl)|(with_reducible (refine bf rfl ?_ ?_);all_goals(intro hb;have hb':=hb;(try simp only[pkC]at hb');try(exfalso;omega)))|(refine rg_ ?_;intro K hK)|(refine hq_ ?_;clear hK K)|refine ca_ ?_ ?_|(refine cg_ ?_;first|refine cT_ hi ?_)|((with_reducible refine dP ?_);simp(disch:=first|decide|omega) only[↓pkS,pkW,pkA,undef,g_,h_,i_,bJ,dS,lvD,dU,lcD,lvK,lcK,bI,dn,bK,ex,St.put,St.ev,kav,gdA,opI,dK,dW,dD,dR,dV,AV.toD,AC.toD,AV.nw,AC.nw,AC.one,c_,aG,ak,aB,aF,aN,aH,if_true,if_false,f_,dF,D.one,D.ones,D.sz,D.szs,d_,e_,a_,b_,reduceIte,pkN,aJ,aI,aK,aC,aA])|(first|(with_reducible rfl)|(with_reducible refine bV ?_;kernel_rfl)|exact aA _|exact aC _|exact el_ln _|exact el_tk _ _|exact el_td _ _ _|omega|(simp;done)|(simp;omega))|((with_reducible refine cu ?_);simp[bM,dM,dJ,dY,AC.toD,aG,ak,aB,aF,c_,bP,aU,bT,bQ,cO,aS,dh,cZ,eF,eG,aJ,aI,aK,aC,aA];first|done|rfl))
 exact dX ⟨⟨_,rfl,rfl,trivial⟩,⟨_,rfl,rfl,trivial⟩⟩
end Go.Proofs.YtfengkmaphbofaaGreatDoor
