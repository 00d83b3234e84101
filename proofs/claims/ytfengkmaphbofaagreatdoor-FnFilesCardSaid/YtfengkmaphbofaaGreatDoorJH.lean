/-
  Texts joined: Prs1 Prs2 Prs3.
-/
import Derived.Test.YtfengkmaphbofaaGreatDoorJG
set_option maxHeartbeats 16000000
set_option linter.unusedSimpArgs false
set_option linter.unusedVariables false
namespace Go.Proofs.YtfengkmaphbofaaGreatDoor
open Go.RowKit
open Nat renaming reduceLeDiff→a_,reduceEqDiff→b_,reduceAdd→d_,reduceSub→e_,le_refl→k_,zero_le→s_,zero_add→E_
open Value renaming oneCell'→c_,string→v_
open Bool renaming false_eq_true→f_
open List renaming flatMap_cons→g_,flatMap_nil→h_,append_nil→i_,length_nil→l_,cons_append→n_,length_cons→o_,nil_append→p_,mem_singleton→q_,replicate→r_,map_cons→t_,map_nil→w_,length_map→x_,toList_toArray→z_,take_length→B_,mem_append→D_
open Int renaming toNat_natCast→j_
open Lib renaming bytesWorld_below→m_,cellsOf→A_,countB→G_,splitB→H_,occAt→I_
open Below renaming refl→u_
attribute [local irreducible] sw sd sn
theorem Qw(s:ByteArray)(lo hi:Int)(hs:s.size≤1048576)(w:World)(ht:oZ w):Calls Tryz.prog 78 #[.string s,.int .i64 lo,.int .i64 hi] w fun e w'=>e= .returned (.tuple #[.int .i64 (rdN lo hi s).1,.bool (rdN lo hi s).2])∧Below w.heap.size w w':=by
 obtain⟨hp,⟨ev0,hv0,he0⟩,⟨ev1,hv1,he1⟩,_⟩:=id ht;cases h:Lib.atoiAll s.data.toList with
 | ok v=>
   obtain⟨hb0,hb1⟩:=Lib.atoiAll_bounds h;by_cases hlo:v<lo
   ·have hr:rdN lo hi s=(0,false):=by unfold rdN;rw[h];simp only;rw[if_neg (by omega)]
    rw[hr]
    go_enter Tryz.func78,Tryz.ntmps78
    go_wp2_with (go_at_call 118;refine(Tryz.strconv_Atoi_ok s (by omega) v h _).mono ?_;rintro e w' ⟨rfl,hw⟩)
    have hB:Below w.heap.size w w':=by
     rcases hw with rfl|⟨t,rfl⟩
     ·exact u_ _ _
     ·exact m_ _ _ _
    go_wp2
    go_ret2
    exact⟨rfl,hB⟩
   by_cases hhi:hi<v
   ·have hr:rdN lo hi s=(0,false):=by unfold rdN;rw[h];simp only;rw[if_neg (by omega)]
    rw[hr]
    go_enter Tryz.func78,Tryz.ntmps78
    go_wp2_with (go_at_call 118;refine(Tryz.strconv_Atoi_ok s (by omega) v h _).mono ?_;rintro e w' ⟨rfl,hw⟩)
    have hB:Below w.heap.size w w':=by
     rcases hw with rfl|⟨t,rfl⟩
     ·exact u_ _ _
     ·exact m_ _ _ _
    go_wp2
    go_ret2
    exact⟨rfl,hB⟩
   have hIt:∀W,oZ W→Calls Tryz.prog 100 #[.int .i64 v] W (wW (.string (dM v)) W):=fun W hW=>Uc (O7 hb0 hb1) (vs:= [.int .i64 v]) ⟨MS _,trivial⟩ hW
   by_cases heq:dM v=s
   ·have hr:rdN lo hi s=(v,true):=ug hb0 hb1 (by omega) (by omega) heq;have hq:((dM v).toList==s.toList)=true:=by rw[heq];simp
    rw[hr]
    go_enter Tryz.func78,Tryz.ntmps78
    go_wp2_with (go_at_call 118;refine(Tryz.strconv_Atoi_ok s (by omega) v h _).mono ?_;rintro e w' ⟨rfl,hw⟩)
    have hB:Below w.heap.size w w':=by
     rcases hw with rfl|⟨t,rfl⟩
     ·exact u_ _ _
     ·exact m_ _ _ _
    clear hw
    go_wp2_with (go_at_call 100;refine(hIt _ (Cc ht hB)).mono ?_;rintro e w2 ⟨rfl,hB2⟩)
    go_wp2
    go_ret2
    exact⟨rfl,hB.trans (hB2.mono hB.size)⟩
   ·have hr:rdN lo hi s=(0,false):=by unfold rdN;rw[h];simp only;rw[if_neg (fun hc=>heq hc.2.2)]
    have hq:((dM v).toList==s.toList)=false:=by
     rw[beq_eq_false_iff_ne];exact fun e=>heq (qj.1 e)
    rw[hr]
    go_enter Tryz.func78,Tryz.ntmps78
    go_wp2_with (go_at_call 118;refine(Tryz.strconv_Atoi_ok s (by omega) v h _).mono ?_;rintro e w' ⟨rfl,hw⟩)
    have hB:Below w.heap.size w w':=by
     rcases hw with rfl|⟨t,rfl⟩
     ·exact u_ _ _
     ·exact m_ _ _ _
    clear hw
    go_wp2_with (go_at_call 100;refine(hIt _ (Cc ht hB)).mono ?_;rintro e w2 ⟨rfl,hB2⟩)
    go_wp2
    go_ret2
    exact⟨rfl,hB.trans (hB2.mono hB.size)⟩
 | «syntax» =>
   have hr:rdN lo hi s=(0,false):=by unfold rdN;rw[h]
   rw[hr]
   go_enter Tryz.func78,Tryz.ntmps78
   go_wp2_with (go_at_call 118;refine(Tryz.strconv_Atoi_syntax s (by omega) h ev0 _ ?_ he0).mono ?_)
   ·exact hv0
   rintro e W1 ⟨N,rfl, -, -,hb⟩
   go_wp2
   go_ret2
   exact⟨rfl,hb⟩
 | range=>
   have hr:rdN lo hi s=(0,false):=by unfold rdN;rw[h]
   rw[hr]
   go_enter Tryz.func78,Tryz.ntmps78
   go_wp2_with (go_at_call 118;refine(Tryz.strconv_Atoi_range s (by omega) h ev1 _ ?_ he1).mono ?_)
   ·exact hv1
   rintro e W1 ⟨N,rfl, -, -,hb⟩
   go_wp2
   go_ret2
   exact⟨rfl,hb⟩
abbrev H6(p:Int×Bool):AV:= .tup [(false,[.raw (.int .i64 p.1)]),(false,[.raw (.bool p.2)])]
theorem TU(s:ByteArray)(lo hi:Int)(hs:s.size≤1048576):dK Tryz.prog 78 [ls s,li lo,li hi] (H6 (rdN lo hi s)):=fun w vs hr ht=>by
 obtain⟨v,u,z,rfl,h1,h2,h3⟩:=YP hr;obtain rfl:=ni h1;obtain rfl:=ni h2;obtain rfl:=ni h3;exact(Qw s lo hi hs w ht).mono fun e w' ⟨he,hb⟩=>⟨_,he,⟨[.int .i64 (rdN lo hi s).1,.bool (rdN lo hi s).2],rfl,⟨rfl,trivial⟩,⟨rfl,trivial⟩,trivial⟩,hb⟩
theorem wo{w:World}:∀(l:List ByteArray),Rs w (l.map ls) [] (l.map v_)
 | []=>⟨rfl,rfl⟩
 |s::l=>⟨[],[],[.string s],l.map v_,rfl,rfl,⟨rfl,rfl⟩,wo l⟩
theorem Ob{P:Program}{f:Nat}{ds l:List D}(h:∀w vs,Rds w ds vs→oZ w→Calls P f vs.toArray w (BN l w)):dK P f ds (.c false [.sl true l]):=fun w vs hr ht=>(h w vs hr ht).mono fun e w' ⟨fp,v,h1,h2,h3,h4⟩=>
 ⟨v,h1,⟨⟨fp,h2,fun b hb=>⟨rH.2 (h3.2 b hb).1,fun _=>Or.inl (h3.2 b hb).1⟩⟩,trivial⟩,h4⟩
theorem PX(sep s:ByteArray)(h1:1≤sep.size):(cut sep s).length=G_ s sep+1:=Lib.splitB_all sep h1 0 _ s rfl
theorem zo(sep s:ByteArray)(h1:1≤sep.size):(cut sep s).length≤s.size+1:=by
 rw[PX sep s h1];have:=Lib.countB_le sep h1 s.size s (k_ _);omega
theorem RU(s sep:ByteArray)(hs:s.size≤1048576)(h1:1≤sep.size):dK Tryz.prog 35 [ls s,ls sep] (.c false [.sl true ((cut sep s).map ls)]):=Ob fun w vs hr ht=>by
 obtain⟨v,u,rfl,g1,g2⟩:=YQ hr;obtain rfl:=ni g1;obtain rfl:=ni g2;obtain⟨_,_,_,m,hm⟩:=ht;refine(Tryz.strings_Split s sep m w (by omega) hm h1).mono ?_;rintro e w' ⟨rfl,rfl⟩;have hl:=PX sep s h1;have hle:=zo sep s h1;have hrow:=Row.new w 9 ((cut sep s).map v_).toArray;rw[z_]at hrow;have hS:=Sl.MZ (n:=G_ s sep+1) hrow (wo (cut sep s)) (by rw[x_,hl]) (by unfold maxLen;omega);exact⟨[w.heap.size],_,rfl,hS,jg.LM hrow (k_ _) jg.nil,(u_ _ _).alloc (k_ _) _⟩
theorem Qn(s sep:ByteArray)(n:Nat)(hs:s.size≤1048576)(h1:1≤sep.size)(hn:1≤n)(hn2:n≤1048576):dK Tryz.prog 58 [ls s,ls sep,li n] (.c false [.sl true ((H_ sep 0 (min n (s.size+1) - 1) s).map ls)]):=Ob fun w vs hr ht=>by
 obtain⟨v,u,z,rfl,g1,g2,g3⟩:=YP hr;obtain rfl:=ni g1;obtain rfl:=ni g2;obtain rfl:=ni g3;obtain⟨_,_,_,m,hm⟩:=ht;refine(Tryz.strings_SplitN s sep n m w (by omega) hm h1 hn (by omega)).mono ?_;rintro e w' ⟨rfl,rfl⟩;have hle:=Lib.splitB_length_le sep 0 (min n (s.size+1) - 1) s;generalize hN:min n (s.size+1)=N at*;have hN1:1≤N:=by omega
 generalize hL:H_ sep 0 (N - 1) s=L at*;have hrow:=Row.new w 9 (A_ L N);have hat:At (w.alloc (.cells (A_ L N) 9)) w.heap.size 0 (L.map v_):=fun j x hj=>by
  rw[E_,hrow.cell];unfold A_;rw[z_,List.getElem?_append_left (by simpa using(List.getElem?_eq_some_iff.1 hj).1)];exact hj
 refine⟨[w.heap.size],_,rfl, ?_,jg.LM hrow (k_ _) jg.nil,(u_ _ _).alloc (k_ _) _⟩;unfold Sl;rw[R];exact⟨_,N,by rw[x_],by rw[x_];omega,by unfold maxLen;omega,Or.inr ⟨w.heap.size,0,[],L.map v_,rfl,rfl,hrow.lt,wo L,hat⟩⟩
def zU :IC:=(zd_ [zz_ 4 (.mov (.k (.slice none 0 0)))] (zd_ [zw_ 5 0,zw_ 6 1,zz_ 7 (.brow true 5 1 1 false [(.t 6)]),zz_ 8 (.cvs (.t 7)),zp_ 9 35 5 8,zw_ 4 9] .ret))
theorem Du :bg Tryz.prog (Tryz.f36.body.getD .skip)=some zU:=by kernel_rfl
theorem qG(s:ByteArray)(c:UInt8)(hs:s.size≤1048576):dK Tryz.prog 36 [ls s,lu8 c] (.c false [.sl true ((cut ⟨#[c]⟩ s).map ls)]):=by
 refine gW (fn:=Tryz.f36) (t:=4) (hc:=Du) (h:= ?_);unfold zU;refine zb_ ?_;change AWP _ _ _ (st0 10 _);unfold lu8;simp only[undef,stS,st0,stN,D.av,D.avN,aW,aN,aY,aX,aO,iL,aK,aJ,t_,w_,r_,n_,p_,o_,l_,d_,e_];have hi:=RU s ⟨#[c]⟩ hs (k_ 1);have hb:jW [.leaf (.int .u8 (c.toNat:Int))]=some [c]:=sZ [c]
 repeat' (first|(with_reducible first|refine dG ?_|refine bK ?_|refine cO ?_|refine cZ ?_|refine dH ?_|refine eU ?_|refine bW ?_|refine dF ?_|refine aZ ?_|refine bG ?_|refine cu ?_|refine bD ?_|refine bZ ?_|refine bn ?_|refine bC ?_)|((with_reducible refine bF ?_ ?_);rfl)|((with_reducible refine bH ?_ ?_);rfl)|((with_reducible refine bJ ?_ ?_);rfl)|(with_reducible (refine bI rfl ?_ ?_);all_goals(intro hb;have hb':=hb;(try simp only[pkC]at hb');try(exfalso;omega)))|(refine rg_ ?_;intro K hK)|(refine hq_ ?_;clear hK K)|refine ca_ ?_ ?_|(refine cg_ ?_;first|refine cT_ hi ?_)|((with_reducible refine eF ?_);simp(disch:=first|decide|omega) only[↓pkS,pkW,pkA,undef,g_,h_,i_,dw,fG,lvD,fK,lcD,lvK,lcK,dh,dB,dA,ex,St.put,St.ev,kav,gdA,opI,dZ,fJ,dV,fF,fM,AV.toD,AC.toD,AV.nw,AC.nw,AC.one,c_,aA,aj,au,ay,bf,aV,if_true,if_false,f_,dW,D.one,D.ones,D.sz,D.szs,d_,e_,a_,b_,reduceIte,pkN,aK,aJ,aO,aF,aC,hb])|(first|(with_reducible rfl)|(with_reducible refine dD ?_;kernel_rfl)|exact aC _|exact aF _|exact el_ln _|exact el_tk _ _|exact el_td _ _ _|omega|(simp;done)|(simp;omega))|((with_reducible refine dI ?_);simp[aP,bP,bM,dL,AC.toD,aA,aj,au,ay,c_,aQ,aH,aU,aS,aW,aN,aY,aX,dQ,dR,aK,aJ,aO,aF,aC,hb];first|done|rfl))
 exact dS ⟨_,rfl,⟨rfl,rfl⟩,trivial⟩
def lC(s:ByteArray)(c:UInt8)(i k:Nat)(l:List ByteArray):Prop:=
 l.length≤i∧((i≤s.size∧k≤i∧(∀j,k≤j→j<i→I_ s.data.toList [c] j=false)∧l++cut ⟨#[c]⟩ (s.extract k s.size)=cut ⟨#[c]⟩ s)∨(i=s.size+1∧l=cut ⟨#[c]⟩ s))
theorem lC.start(s:ByteArray)(c:UInt8):lC s c 0 0 []:=⟨k_ _,Or.inl ⟨s_ _,k_ _,fun j _ h=>absurd h (Nat.not_lt_zero _),by rw[oK];rfl⟩⟩
theorem lC.last{s:ByteArray}{c:UInt8}{k:Nat}{l:List ByteArray}(h:lC s c s.size k l):lC s c (s.size+1) (s.size+1) (l++ [s.extract k s.size]):=by
 obtain⟨h1,⟨h2,h3,h4,h5⟩|⟨h2,_⟩⟩:=h
 ·refine⟨by simp;omega,Or.inr ⟨rfl, ?_⟩⟩;rw[← h5,uT s ⟨#[c]⟩ (fun j hj hj2=> ?_) h3];rcases Nat.lt_or_ge j s.size with hlt|hge
  ·exact h4 j hj hlt
  ·exact JF s c hge
 ·omega
theorem lC.hit{s:ByteArray}{c:UInt8}{i k:Nat}{l:List ByteArray}(h:lC s c i k l)(hi:i<s.size)(hc:s[i]=c):lC s c (i+1) (i+1) (l++ [s.extract k i]):=by
 obtain⟨h1,⟨h2,h3,h4,h5⟩|⟨h2,_⟩⟩:=h
 ·refine⟨by simp;omega,Or.inl ⟨by omega,k_ _,fun j hj hj2=>by omega, ?_⟩⟩;rw[← h5,BH s ⟨#[c]⟩ (k_ 1) h3 (show i+1≤s.size by omega) h4 ((Ud s c hi).trans (by simp[hc]))];simp;rfl
 ·omega
theorem lC.miss{s:ByteArray}{c:UInt8}{i k:Nat}{l:List ByteArray}(h:lC s c i k l)(hi:i<s.size)(hc:s[i]≠c):lC s c (i+1) k l:=by
 obtain⟨h1,⟨h2,h3,h4,h5⟩|⟨h2,_⟩⟩:=h
 ·refine⟨by omega,Or.inl ⟨by omega,by omega,fun j hj hj2=> ?_,h5⟩⟩;by_cases e:j=i
  ·subst e;rw[Ud s c hi,beq_eq_false_iff_ne];exact fun e=>hc e.symm
  ·exact h4 j hj (by omega)
 ·omega
theorem lC.Zi{s:ByteArray}{c:UInt8}{i k:Nat}{l:List ByteArray}(h:lC s c i k l)(hi:i≤s.size):k≤i:=by
 obtain⟨h1,⟨h2,h3,_⟩|⟨h2,_⟩⟩:=h
 ·exact h3
 ·omega
theorem lC.i_le{s:ByteArray}{c:UInt8}{i k:Nat}{l:List ByteArray}(h:lC s c i k l):i≤s.size+1:=by
 obtain⟨h1,⟨h2,h3,_⟩|⟨h2,_⟩⟩:=h
 ·omega
 ·omega
theorem lC.fin{s:ByteArray}{c:UInt8}{k:Nat}{l:List ByteArray}(h:lC s c (s.size+1) k l):l=cut ⟨#[c]⟩ s:=by
 obtain⟨h1,⟨h2,h3,_⟩|⟨h2,h3⟩⟩:=h
 ·omega
 ·exact h3
theorem YJ(a b:UInt8):(((a.toNat:Nat):Int)==((b.toNat:Nat):Int))=decide (a=b):=by
 by_cases h:a=b
 ·subst h;simp
 ·rw[decide_eq_false h,beq_eq_false_iff_ne];intro e;exact h (UInt8.toNat_inj.1 (by omega))
theorem BG{s:ByteArray}{k:Nat}(h:k<s.size):s.data[k]? =some s[k]:=by
 rw[Array.getElem?_eq_getElem (by simpa using h)];rfl
theorem zle(k:Nat):((0:Int)≤((k:Nat):Int))=True:=by simp
def zT :IC:=(zd_ [zz_ 4 (.mov (.k (.slice none 0 0)))] (zd_ [zz_ 8 (.brow true 9 1 0 false []),zw_ 5 8] (zd_ [zk_ 6 0] (.seq (zd_ [zk_ 7 0] (.block 0 (.loop (.seq (zd_ [zw_ 9 7,zw_ 10 0,zf_ 11 true 10,zl_ 12 .leq 9 11] (.cond (.t 12) .skip (.exit 0))) (.seq (.block 1 (zd_ [zw_ 15 7,zw_ 16 0,zf_ 17 true 16,zl_ 18 .eql 15 17,zw_ 19 18,zu_ 20 19 0,zu_ 21 19 7,zx_ 22 19 (.sidx (.t 20) (.t 21)),zu_ 23 19 1,zx_ 24 19 (.bin .eql (.t 22) (.t 23)),zg_ 25 19 true 24] (.cond (.t 25) (zd_ [zw_ 26 5,zw_ 27 0,zw_ 28 6,zw_ 29 7,zz_ 30 (.ssl (.t 27) (some (.t 28)) (some (.t 29))),zz_ 31 (.brow false 9 1 1 false [(.t 30)]),zz_ 32 (.app 9 1 (.t 26) (.t 31)),zw_ 5 32] (.reg false [zw_ 33 7,zm_ 34 .add 33 1,zw_ 6 34])) .skip))) (.reg false [zw_ 13 7,zm_ 14 .add 13 1,zw_ 7 14])))))) (zd_ [zw_ 35 5,zw_ 4 35] .ret)))))
theorem Dt :bg Tryz.prog (Tryz.f32.body.getD .skip)=some zT:=by kernel_rfl
theorem qF(s:ByteArray)(c:UInt8)(hs:s.size≤1048576):dK Tryz.prog 32 [ls s,lu8 c] (.c false [.sl true ((cut ⟨#[c]⟩ s).map ls)]):=by
 refine gW (fn:=Tryz.f32) (t:=4) (hc:=Dt) (h:= ?_);unfold zT;refine zb_ ?_;change AWP _ _ _ (st0 36 _);unfold lu8;simp only[undef,stS,st0,stN,D.av,D.avN,aW,aN,aY,aX,aO,iL,aK,aJ,t_,w_,r_,n_,p_,o_,l_,d_,e_]
 repeat' (first|(with_reducible first|refine dG ?_|refine bK ?_|refine cO ?_|refine cZ ?_|refine dH ?_|refine eU ?_|refine bW ?_|refine dF ?_|refine aZ ?_|refine bG ?_|refine cu ?_|refine bD ?_|refine bZ ?_|refine bn ?_|refine bC ?_)|((with_reducible refine bF ?_ ?_);rfl)|((with_reducible refine bH ?_ ?_);rfl)|((with_reducible refine bJ ?_ ?_);rfl)|(with_reducible (refine bI rfl ?_ ?_);all_goals(intro hb;have hb':=hb;(try simp only[pkC]at hb');try(exfalso;omega)))|(refine rg_ ?_;intro K hK)|((with_reducible refine dN ?_ ?_);rfl)|((with_reducible refine dP ?_ ?_);(rfl;try simp only[St.put,undef,pkA,d_,e_,a_,b_]))|(with_reducible (refine eH rfl ?_ ?_);all_goals(intro hb;have hb':=hb;(try simp only[pkC]at hb');try(exfalso;omega)))|(refine hq_ ?_;clear hK K)|refine ca_ ?_ ?_|((with_reducible refine eF ?_);simp(disch:=first|decide|omega) only[↓pkS,pkW,pkA,undef,g_,h_,i_,dw,fG,lvD,fK,lcD,lvK,lcK,dh,dB,dA,ex,St.put,St.ev,kav,gdA,opI,dZ,fJ,dV,fF,fM,AV.toD,AC.toD,AV.nw,AC.nw,AC.one,c_,aA,aj,au,ay,bf,aV,if_true,if_false,f_,dW,D.one,D.ones,D.sz,D.szs,d_,e_,a_,b_,reduceIte,pkN,aK,aJ,aO,aF,aC])|(first|(with_reducible rfl)|(with_reducible refine dD ?_;kernel_rfl)|exact aC _|exact aF _|exact el_ln _|exact el_tk _ _|exact el_td _ _ _|omega|(simp;done)|(simp;omega))|((with_reducible refine dI ?_);simp[aP,bP,bM,dL,AC.toD,aA,aj,au,ay,c_,aQ,aH,aU,aS,aW,aN,aY,aX,dQ,dR,aK,aJ,aO,aF,aC];first|done|rfl))
 refine iU (X:=Nat×Nat×List ByteArray×Nat) (fun q=> [.k,.k,.d,.d,.d,.v (.c false [.own 0 q.2.2.2]),.v (.c false [.raw (.int .i64 (q.2.1:Nat))]),.v (.c false [.raw (.int .i64 (q.1:Nat))])]) (fun q=> [⟨q.2.2.1.map ls,9,1,q.2.2.2,true⟩]) (fun q bs=> []) (fun q=>lC s c q.1 q.2.1 q.2.2.1) (fun q=>s.size+1 - q.1) (0,0,[],0) (lC.start s c) ?_ ?_
 ·simp[gI,iM,gq,gJ,AV.fits,AC.fits,FB,fP]
 rintro⟨i,k,l,v⟩ hinv0;have hinv:lC s c i k l:=hinv0;clear hinv0;simp only[FB,fP];have hil:=hinv.i_le;have hll:l.length≤1048577:=by have:=hinv.1;omega
 by_cases hi:i≤s.size
 case neg=>
  obtain rfl:i=s.size+1:=by omega
  have e0:decide ((((s.size+1:Nat)):Int)≤(s.size:Int))=false:=decide_eq_false (by omega);have hfin:=hinv.fin;subst hfin
  repeat' (first|(with_reducible first|refine dG ?_|refine bK ?_|refine cO ?_|refine cZ ?_|refine dH ?_|refine eU ?_|refine bW ?_|refine dF ?_|refine aZ ?_|refine bG ?_|refine cu ?_|refine bD ?_|refine bZ ?_|refine bn ?_|refine bC ?_)|((with_reducible refine bF ?_ ?_);rfl)|((with_reducible refine bH ?_ ?_);rfl)|((with_reducible refine bJ ?_ ?_);rfl)|(with_reducible (refine bI rfl ?_ ?_);all_goals(intro hb;have hb':=hb;(try simp only[pkC]at hb');try(exfalso;omega)))|(refine rg_ ?_;intro K hK)|((with_reducible refine dN ?_ ?_);rfl)|((with_reducible refine dP ?_ ?_);(rfl;try simp only[St.put,undef,pkA,d_,e_,a_,b_]))|(with_reducible (refine eH rfl ?_ ?_);all_goals(intro hb;have hb':=hb;(try simp only[pkC]at hb');try(exfalso;omega)))|(refine hq_ ?_;clear hK K)|refine ca_ ?_ ?_|((with_reducible refine eF ?_);simp(disch:=first|decide|omega) only[↓pkS,pkW,pkA,undef,g_,h_,i_,dw,fG,lvD,fK,lcD,lvK,lcK,dh,dB,dA,ex,St.put,St.ev,kav,gdA,opI,dZ,fJ,dV,fF,fM,AV.toD,AC.toD,AV.nw,AC.nw,AC.one,c_,aA,aj,au,ay,bf,aV,if_true,if_false,f_,dW,D.one,D.ones,D.sz,D.szs,d_,e_,a_,b_,reduceIte,pkN,aK,aJ,aO,aF,aC,e0])|(first|(with_reducible rfl)|(with_reducible refine dD ?_;kernel_rfl)|exact aC _|exact aF _|exact el_ln _|exact el_tk _ _|exact el_td _ _ _|omega|(simp;done)|(simp;omega))|((with_reducible refine dI ?_);simp[aP,bP,bM,dL,AC.toD,aA,aj,au,ay,c_,aQ,aH,aU,aS,aW,aN,aY,aX,dQ,dR,aK,aJ,aO,aF,aC,e0];first|done|rfl))
  exact dS ⟨_,rfl,⟨_,rfl,rfl,rfl,Or.inl rfl⟩,trivial⟩
 have hk:=hinv.Zi hi;have e1:decide ((i:Int)≤(s.size:Int))=true:=decide_eq_true (by omega);by_cases he:i=s.size
 ·have e2:((i:Int)==(s.size:Int))=true:=by simp[he]
  have hn:=hinv;rw[he]at hn;have hn2:=hn.last;rw[← he]at hn2;have hse:(l++ [s.extract k i]).map ls=l.map ls++ [ls (s.extract k i)]:=by simp
  repeat' (first|(with_reducible first|refine dG ?_|refine bK ?_|refine cO ?_|refine cZ ?_|refine dH ?_|refine eU ?_|refine bW ?_|refine dF ?_|refine aZ ?_|refine bG ?_|refine cu ?_|refine bD ?_|refine bZ ?_|refine bn ?_|refine bC ?_)|((with_reducible refine bF ?_ ?_);rfl)|((with_reducible refine bH ?_ ?_);rfl)|((with_reducible refine bJ ?_ ?_);rfl)|(with_reducible (refine bI rfl ?_ ?_);all_goals(intro hb;have hb':=hb;(try simp only[pkC]at hb');try(exfalso;omega)))|(refine rg_ ?_;intro K hK)|((with_reducible refine dN ?_ ?_);rfl)|((with_reducible refine dP ?_ ?_);(rfl;try simp only[St.put,undef,pkA,d_,e_,a_,b_]))|(with_reducible (refine eH rfl ?_ ?_);all_goals(intro hb;have hb':=hb;(try simp only[pkC]at hb');try(exfalso;omega)))|(refine hq_ ?_;clear hK K)|refine ca_ ?_ ?_|((with_reducible refine eF ?_);simp(disch:=first|decide|omega) only[↓pkS,pkW,pkA,undef,g_,h_,i_,dw,fG,lvD,fK,lcD,lvK,lcK,dh,dB,dA,ex,St.put,St.ev,kav,gdA,opI,dZ,fJ,dV,fF,fM,AV.toD,AC.toD,AV.nw,AC.nw,AC.one,c_,aA,aj,au,ay,bf,aV,if_true,if_false,f_,dW,D.one,D.ones,D.sz,D.szs,d_,e_,a_,b_,reduceIte,pkN,aK,aJ,aO,aF,aC,e1,e2,hse])|(first|(with_reducible rfl)|(with_reducible refine dD ?_;kernel_rfl)|exact aC _|exact aF _|exact el_ln _|exact el_tk _ _|exact el_td _ _ _|omega|(simp;done)|(simp;omega))|((with_reducible refine dI ?_);simp[aP,bP,bM,dL,AC.toD,aA,aj,au,ay,c_,aQ,aH,aU,aS,aW,aN,aY,aX,dQ,dR,aK,aJ,aO,aF,aC,e1,e2,hse];first|done|rfl))
  refine gY (i+1,i+1,l++ [s.extract k i],v+1) ?_ (show lC s c (i+1) (i+1) (l++ [s.extract k i]) by exact hn2) (show s.size+1 - (i+1)<s.size+1 - i by omega);simp[gI,iM,gq,gJ,AV.fits,AC.fits,FB,fP,ls]
 have hlt:i<s.size:=by omega
 have e2:((i:Int)==(s.size:Int))=false:=LY (by omega);have hsx:=BG hlt;have hu:=YJ s[i] c;by_cases hc:s[i]=c
 ·rw[decide_eq_true hc]at hu;have hn2:=hinv.hit hlt hc;have hse:(l++ [s.extract k i]).map ls=l.map ls++ [ls (s.extract k i)]:=by simp
  repeat' (first|(with_reducible first|refine dG ?_|refine bK ?_|refine cO ?_|refine cZ ?_|refine dH ?_|refine eU ?_|refine bW ?_|refine dF ?_|refine aZ ?_|refine bG ?_|refine cu ?_|refine bD ?_|refine bZ ?_|refine bn ?_|refine bC ?_)|((with_reducible refine bF ?_ ?_);rfl)|((with_reducible refine bH ?_ ?_);rfl)|((with_reducible refine bJ ?_ ?_);rfl)|(with_reducible (refine bI rfl ?_ ?_);all_goals(intro hb;have hb':=hb;(try simp only[pkC]at hb');try(exfalso;omega)))|(refine rg_ ?_;intro K hK)|((with_reducible refine dN ?_ ?_);rfl)|((with_reducible refine dP ?_ ?_);(rfl;try simp only[St.put,undef,pkA,d_,e_,a_,b_]))|(with_reducible (refine eH rfl ?_ ?_);all_goals(intro hb;have hb':=hb;(try simp only[pkC]at hb');try(exfalso;omega)))|(refine hq_ ?_;clear hK K)|refine ca_ ?_ ?_|((with_reducible refine eF ?_);simp(disch:=first|decide|omega) only[↓pkS,pkW,pkA,undef,g_,h_,i_,dw,fG,lvD,fK,lcD,lvK,lcK,dh,dB,dA,ex,St.put,St.ev,kav,gdA,opI,dZ,fJ,dV,fF,fM,AV.toD,AC.toD,AV.nw,AC.nw,AC.one,c_,aA,aj,au,ay,bf,aV,if_true,if_false,f_,dW,D.one,D.ones,D.sz,D.szs,d_,e_,a_,b_,reduceIte,pkN,aK,aJ,aO,aF,aC,e1,e2,hsx,hu,zle,j_,hse])|(first|(with_reducible rfl)|(with_reducible refine dD ?_;kernel_rfl)|exact aC _|exact aF _|exact el_ln _|exact el_tk _ _|exact el_td _ _ _|omega|(simp;done)|(simp;omega))|((with_reducible refine dI ?_);simp[aP,bP,bM,dL,AC.toD,aA,aj,au,ay,c_,aQ,aH,aU,aS,aW,aN,aY,aX,dQ,dR,aK,aJ,aO,aF,aC,e1,e2,hsx,hu,zle,j_,hse];first|done|rfl))
  refine gY (i+1,i+1,l++ [s.extract k i],v+1) ?_ (show lC s c (i+1) (i+1) (l++ [s.extract k i]) by exact hn2) (show s.size+1 - (i+1)<s.size+1 - i by omega);simp[gI,iM,gq,gJ,AV.fits,AC.fits,FB,fP,ls]
 ·rw[decide_eq_false hc]at hu;have hn2:=hinv.miss hlt hc
  repeat' (first|(with_reducible first|refine dG ?_|refine bK ?_|refine cO ?_|refine cZ ?_|refine dH ?_|refine eU ?_|refine bW ?_|refine dF ?_|refine aZ ?_|refine bG ?_|refine cu ?_|refine bD ?_|refine bZ ?_|refine bn ?_|refine bC ?_)|((with_reducible refine bF ?_ ?_);rfl)|((with_reducible refine bH ?_ ?_);rfl)|((with_reducible refine bJ ?_ ?_);rfl)|(with_reducible (refine bI rfl ?_ ?_);all_goals(intro hb;have hb':=hb;(try simp only[pkC]at hb');try(exfalso;omega)))|(refine rg_ ?_;intro K hK)|((with_reducible refine dN ?_ ?_);rfl)|((with_reducible refine dP ?_ ?_);(rfl;try simp only[St.put,undef,pkA,d_,e_,a_,b_]))|(with_reducible (refine eH rfl ?_ ?_);all_goals(intro hb;have hb':=hb;(try simp only[pkC]at hb');try(exfalso;omega)))|(refine hq_ ?_;clear hK K)|refine ca_ ?_ ?_|((with_reducible refine eF ?_);simp(disch:=first|decide|omega) only[↓pkS,pkW,pkA,undef,g_,h_,i_,dw,fG,lvD,fK,lcD,lvK,lcK,dh,dB,dA,ex,St.put,St.ev,kav,gdA,opI,dZ,fJ,dV,fF,fM,AV.toD,AC.toD,AV.nw,AC.nw,AC.one,c_,aA,aj,au,ay,bf,aV,if_true,if_false,f_,dW,D.one,D.ones,D.sz,D.szs,d_,e_,a_,b_,reduceIte,pkN,aK,aJ,aO,aF,aC,e1,e2,hsx,hu,zle,j_])|(first|(with_reducible rfl)|(with_reducible refine dD ?_;kernel_rfl)|exact aC _|exact aF _|exact el_ln _|exact el_tk _ _|exact el_td _ _ _|omega|(simp;done)|(simp;omega))|((with_reducible refine dI ?_);simp[aP,bP,bM,dL,AC.toD,aA,aj,au,ay,c_,aQ,aH,aU,aS,aW,aN,aY,aX,dQ,dR,aK,aJ,aO,aF,aC,e1,e2,hsx,hu,zle,j_];first|done|rfl))
  refine gY (i+1,k,l,v) ?_ (show lC s c (i+1) k l by exact hn2) (show s.size+1 - (i+1)<s.size+1 - i by omega);simp[gI,iM,gq,gJ,AV.fits,AC.fits,FB,fP]
def Aj(s:ByteArray):ByteArray:=if Dk s then s.extract 1 s.size else s
theorem wS(s:ByteArray):(Aj s).data.toList=lI s:=by
 unfold Aj lI;split
 ·rw[x9]
 ·rfl
theorem QG{s:ByteArray}(h0:0<s.size)(h:s[0]=45):Dk s=true:=by
 unfold Dk;rw[xW s 0 h0,h];simp[h0]
theorem JY{s:ByteArray}(h0:¬0<s.size):Dk s=false:=by simp[Dk,h0]
theorem JX{s:ByteArray}(h0:0<s.size)(h:s[0]≠45):Dk s=false:=by
 unfold Dk;rw[xW s 0 h0];simp[h]
theorem rJ(s:ByteArray):s.data.toList.length=s.size:=by simp
theorem Ig{s:ByteArray}{i:Nat}(h:i<s.size):s[i]∈s.data.toList:=by
 have:s.data.toList[i]'(by simpa using h)=s[i]:=rfl;rw[← this];exact List.getElem_mem _
theorem Bc{s:ByteArray}{i:Nat}(h:i<s.size):s.data.toList.take (i+1)=s.data.toList.take i++ [s[i]]:=List.take_succ_eq_append_getElem (by simpa using h)
theorem yh{l:List UInt8}{i m:Nat}(hd:∀c∈l.take i,pR c=true)(hi:i≤m):iI 0 (l.take i)<10 ^ m:=by
 have h:=Ei (l.take i) 0 0 hd (by simp);rw[E_]at h;exact Nat.lt_of_lt_of_le h (Nat.pow_le_pow_right (by decide) (by rw[List.length_take];omega))
theorem O9{c:UInt8}(h:(c.toNat:Int)<48):pR c=false:=by simp[pR];omega
theorem Pe{c:UInt8}(h:(c.toNat:Int) > 57):pR c=false:=by simp[pR];omega
theorem O8{c:UInt8}(h1:¬(c.toNat:Int)<48)(h2:¬(c.toNat:Int) > 57):pR c=true:=by simp[pR];omega
def xM :IC:=(zd_ [zk_ 4 0,zj_ 5 false] (zd_ [zw_ 10 0,zf_ 11 true 10,zm_ 12 .gtr 11 0,zw_ 13 12,zv_ 14 13 0,zy_ 15 13 (.sidx (.t 14) (.k (.int .i64 0))),zy_ 16 13 (.bin .eql (.t 15) (.k (.int .u8 45))),zh_ 17 13 16 false,zw_ 6 17] (zd_ [zw_ 18 0,zw_ 7 18] (.seq (zd_ [zw_ 19 6] (.cond (.t 19) (.reg false [zw_ 20 0,zz_ 21 (.ssl (.t 20) (some (.k (.int .i64 1))) none),zw_ 7 21]) .skip)) (.seq (zd_ [zw_ 22 7,zf_ 23 true 22,zm_ 24 .lss 23 1,zw_ 25 24,zu_ 26 25 7,zx_ 27 25 (.len true (.t 26)),zu_ 28 25 1,zx_ 29 25 (.bin .gtr (.t 27) (.t 28)),zg_ 30 25 true 29] (.cond (.t 30) (zd_ [zk_ 4 0,zj_ 5 false] .ret) .skip)) (zd_ [zk_ 8 0] (.seq (zd_ [zk_ 9 0] (.block 0 (.loop (.seq (zd_ [zw_ 31 9,zw_ 32 7,zf_ 33 true 32,zl_ 34 .lss 31 33] (.cond (.t 34) .skip (.exit 0))) (.seq (.block 1 (.seq (zd_ [zw_ 37 7,zw_ 38 9,zz_ 39 (.sidx (.t 37) (.t 38)),zz_ 40 (.bin .lss (.t 39) (.k (.int .u8 48))),zw_ 41 40,zu_ 42 41 7,zu_ 43 41 9,zx_ 44 41 (.sidx (.t 42) (.t 43)),zx_ 45 41 (.bin .gtr (.t 44) (.k (.int .u8 57))),zg_ 46 41 true 45] (.cond (.t 46) (zd_ [zk_ 4 0,zj_ 5 false] .ret) .skip)) (.reg false [zw_ 47 8,zz_ 48 (.bin .mul (.k (.int .i64 10)) (.t 47)),zw_ 49 7,zw_ 50 9,zz_ 51 (.sidx (.t 49) (.t 50)),zz_ 52 (.bin .sub (.t 51) (.k (.int .u8 48))),zz_ 53 (.cvi .i64 (.t 52)),zl_ 54 .add 48 53,zw_ 8 54]))) (.reg false [zw_ 35 9,zm_ 36 .add 35 1,zw_ 9 36])))))) (.seq (zd_ [zw_ 55 6] (.cond (.t 55) (.reg false [zw_ 56 8,zz_ 57 (.bin .sub (.k (.int .i64 0)) (.t 56)),zw_ 8 57]) .skip)) (.seq (zd_ [zw_ 58 8,zq_ 59 68 58,zw_ 60 0,zl_ 61 .neq 59 60] (.cond (.t 61) (zd_ [zk_ 4 0,zj_ 5 false] .ret) .skip)) (zd_ [zw_ 62 8,zw_ 4 62,zj_ 5 true] .ret))))))))))
theorem AL :bg Tryz.prog (Tryz.f110.body.getD .skip)=some xM:=by kernel_rfl
theorem QE(s:ByteArray)(m:Nat)(hm1:1≤m)(hm18:m≤18)(hs:s.size≤1048576):dK Tryz.prog 110 [ls s,li m] (H6 (rdS m s)):=by
 refine nY (fn:=Tryz.f110) (r:= .tmp 4) (q:= .tmp 5) (by kernel_rfl) (by kernel_rfl) (by kernel_rfl) rfl AL ?_;unfold xM;refine zb_ ?_;change AWP _ _ _ (st0 63 _);simp only[undef,stS,st0,stN,D.av,D.avN,aW,aN,aY,aX,aO,iL,aK,aJ,t_,w_,r_,n_,p_,o_,l_,d_,e_];by_cases h0:0<s.size
 ·have d0:decide ((s.size:Int) > 0)=true:=decide_eq_true (by omega);have hsx:=BG h0;have hz0:(0:Int).toNat=0:=rfl;have hz1:((0:Int)≤0)=True:=by simp
  by_cases hc:s[0]=45
  ·have hmi:=QG h0 hc;have he:((s[0].toNat:Int)==45)=true:=by rw[hc];rfl
   obtain⟨tb,htb⟩:∃tb,Aj s=tb:=⟨_,rfl⟩
   have hex:s.extract 1 s.size=tb:=by rw[← htb];unfold Aj;rw[if_pos hmi]
   have hbl:tb.data.toList=lI s:=(congrArg (fun z:ByteArray=>z.data.toList) htb).symm.trans (wS s);have hbn:=rJ tb;rw[hbl]at hbn;have htz:tb.size≤1048576:=by rw[← hex];simp;omega
   by_cases h1:tb.size<1
   ·have hr:rdS m s=(0,false):=Bh hm18 (Or.inl (by omega)) hm1;have g1:decide ((tb.size:Int)<1)=true:=decide_eq_true (by omega);rw[hr]
    repeat' (first|(with_reducible first|refine dG ?_|refine bK ?_|refine cO ?_|refine cZ ?_|refine dH ?_|refine eU ?_|refine bW ?_|refine dF ?_|refine aZ ?_|refine bG ?_|refine cu ?_|refine bD ?_|refine bZ ?_|refine bn ?_|refine bC ?_)|((with_reducible refine bF ?_ ?_);rfl)|((with_reducible refine bH ?_ ?_);rfl)|((with_reducible refine bJ ?_ ?_);rfl)|(with_reducible (refine bI rfl ?_ ?_);all_goals(intro hb;have hb':=hb;(try simp only[pkC]at hb');try(exfalso;omega)))|(refine rg_ ?_;intro K hK)|((with_reducible refine dN ?_ ?_);rfl)|((with_reducible refine dP ?_ ?_);(rfl;try simp only[St.put,undef,pkA,d_,e_,a_,b_]))|(with_reducible (refine eH rfl ?_ ?_);all_goals(intro hb;have hb':=hb;(try simp only[pkC]at hb');try(exfalso;omega)))|(refine hq_ ?_;clear hK K)|refine ca_ ?_ ?_|((with_reducible refine eF ?_);simp(disch:=first|decide|omega) only[↓pkS,pkW,pkA,undef,g_,h_,i_,dw,fG,lvD,fK,lcD,lvK,lcK,dh,dB,dA,ex,St.put,St.ev,kav,gdA,opI,dZ,fJ,dV,fF,fM,AV.toD,AC.toD,AV.nw,AC.nw,AC.one,c_,aA,aj,au,ay,bf,aV,if_true,if_false,f_,dW,D.one,D.ones,D.sz,D.szs,d_,e_,a_,b_,reduceIte,pkN,aK,aJ,aO,aF,aC,d0,hsx,hz0,hz1,he,hex,g1])|(first|(with_reducible rfl)|(with_reducible refine dD ?_;kernel_rfl)|exact aC _|exact aF _|exact el_ln _|exact el_tk _ _|exact el_td _ _ _|omega|(simp;done)|(simp;omega))|((with_reducible refine dI ?_);simp[aP,bP,bM,dL,AC.toD,aA,aj,au,ay,c_,aQ,aH,aU,aS,aW,aN,aY,aX,dQ,dR,aK,aJ,aO,aF,aC,d0,hsx,hz0,hz1,he,hex,g1];first|done|rfl))
    exact dS ⟨⟨_,rfl,rfl,trivial⟩,⟨_,rfl,rfl,trivial⟩⟩
   have g1:decide ((tb.size:Int)<1)=false:=decide_eq_false (by omega);by_cases h2:m<tb.size
   ·have hr:rdS m s=(0,false):=Bh hm18 (Or.inr (by omega)) hm1;have g2:decide ((tb.size:Int) >(m:Int))=true:=decide_eq_true (by omega);rw[hr]
    repeat' (first|(with_reducible first|refine dG ?_|refine bK ?_|refine cO ?_|refine cZ ?_|refine dH ?_|refine eU ?_|refine bW ?_|refine dF ?_|refine aZ ?_|refine bG ?_|refine cu ?_|refine bD ?_|refine bZ ?_|refine bn ?_|refine bC ?_)|((with_reducible refine bF ?_ ?_);rfl)|((with_reducible refine bH ?_ ?_);rfl)|((with_reducible refine bJ ?_ ?_);rfl)|(with_reducible (refine bI rfl ?_ ?_);all_goals(intro hb;have hb':=hb;(try simp only[pkC]at hb');try(exfalso;omega)))|(refine rg_ ?_;intro K hK)|((with_reducible refine dN ?_ ?_);rfl)|((with_reducible refine dP ?_ ?_);(rfl;try simp only[St.put,undef,pkA,d_,e_,a_,b_]))|(with_reducible (refine eH rfl ?_ ?_);all_goals(intro hb;have hb':=hb;(try simp only[pkC]at hb');try(exfalso;omega)))|(refine hq_ ?_;clear hK K)|refine ca_ ?_ ?_|((with_reducible refine eF ?_);simp(disch:=first|decide|omega) only[↓pkS,pkW,pkA,undef,g_,h_,i_,dw,fG,lvD,fK,lcD,lvK,lcK,dh,dB,dA,ex,St.put,St.ev,kav,gdA,opI,dZ,fJ,dV,fF,fM,AV.toD,AC.toD,AV.nw,AC.nw,AC.one,c_,aA,aj,au,ay,bf,aV,if_true,if_false,f_,dW,D.one,D.ones,D.sz,D.szs,d_,e_,a_,b_,reduceIte,pkN,aK,aJ,aO,aF,aC,d0,hsx,hz0,hz1,he,hex,g1,g2])|(first|(with_reducible rfl)|(with_reducible refine dD ?_;kernel_rfl)|exact aC _|exact aF _|exact el_ln _|exact el_tk _ _|exact el_td _ _ _|omega|(simp;done)|(simp;omega))|((with_reducible refine dI ?_);simp[aP,bP,bM,dL,AC.toD,aA,aj,au,ay,c_,aQ,aH,aU,aS,aW,aN,aY,aX,dQ,dR,aK,aJ,aO,aF,aC,d0,hsx,hz0,hz1,he,hex,g1,g2];first|done|rfl))
    exact dS ⟨⟨_,rfl,rfl,trivial⟩,⟨_,rfl,rfl,trivial⟩⟩
   have g2:decide ((tb.size:Int) >(m:Int))=false:=decide_eq_false (by omega)
   repeat' (first|(with_reducible first|refine dG ?_|refine bK ?_|refine cO ?_|refine cZ ?_|refine dH ?_|refine eU ?_|refine bW ?_|refine dF ?_|refine aZ ?_|refine bG ?_|refine cu ?_|refine bD ?_|refine bZ ?_|refine bn ?_|refine bC ?_)|((with_reducible refine bF ?_ ?_);rfl)|((with_reducible refine bH ?_ ?_);rfl)|((with_reducible refine bJ ?_ ?_);rfl)|(with_reducible (refine bI rfl ?_ ?_);all_goals(intro hb;have hb':=hb;(try simp only[pkC]at hb');try(exfalso;omega)))|(refine rg_ ?_;intro K hK)|((with_reducible refine dN ?_ ?_);rfl)|((with_reducible refine dP ?_ ?_);(rfl;try simp only[St.put,undef,pkA,d_,e_,a_,b_]))|(with_reducible (refine eH rfl ?_ ?_);all_goals(intro hb;have hb':=hb;(try simp only[pkC]at hb');try(exfalso;omega)))|(refine hq_ ?_;clear hK K)|refine ca_ ?_ ?_|((with_reducible refine eF ?_);simp(disch:=first|decide|omega) only[↓pkS,pkW,pkA,undef,g_,h_,i_,dw,fG,lvD,fK,lcD,lvK,lcK,dh,dB,dA,ex,St.put,St.ev,kav,gdA,opI,dZ,fJ,dV,fF,fM,AV.toD,AC.toD,AV.nw,AC.nw,AC.one,c_,aA,aj,au,ay,bf,aV,if_true,if_false,f_,dW,D.one,D.ones,D.sz,D.szs,d_,e_,a_,b_,reduceIte,pkN,aK,aJ,aO,aF,aC,d0,hsx,hz0,hz1,he,hex,g1,g2])|(first|(with_reducible rfl)|(with_reducible refine dD ?_;kernel_rfl)|exact aC _|exact aF _|exact el_ln _|exact el_tk _ _|exact el_td _ _ _|omega|(simp;done)|(simp;omega))|((with_reducible refine dI ?_);simp[aP,bP,bM,dL,AC.toD,aA,aj,au,ay,c_,aQ,aH,aU,aS,aW,aN,aY,aX,dQ,dR,aK,aJ,aO,aF,aC,d0,hsx,hz0,hz1,he,hex,g1,g2];first|done|rfl))
   clear g1 g2 d0 hsx hz0 hz1 he;refine iU (X:=Nat) (fun q=> [.k,.d,.d,.d,.d,.d,.k,.k,.v (.c false [.raw (.int .i64 (iI 0 (tb.data.toList.take q):Nat))]),.v (.c false [.raw (.int .i64 (q:Nat))])]) (fun q=> []) (fun q bs=> []) (fun q=>q≤tb.size∧∀c∈tb.data.toList.take q,pR c=true) (fun q=>tb.size - q) 0 ⟨s_ _,fun c hc=>by simp at hc⟩ ?_ ?_
   ·simp[gI,iM,gq,gJ,AV.fits,AC.fits,FB,fP,mW]
   rintro i ⟨hi,hdg⟩;simp only[FB,fP];have hp18:(10:Nat) ^ 18=1000000000000000000:=by decide
   by_cases hlt:i<tb.size
   ·have hsx:=BG hlt;by_cases c1:(tb[i].toNat:Int)<48
    ·have hr:rdS m s=(0,false):=Bj (by rw[← hbl];exact Ig hlt) (O9 c1);have b1:decide ((tb[i].toNat:Int)<48)=true:=decide_eq_true c1;rw[hr]
     repeat' (first|(with_reducible first|refine dG ?_|refine bK ?_|refine cO ?_|refine cZ ?_|refine dH ?_|refine eU ?_|refine bW ?_|refine dF ?_|refine aZ ?_|refine bG ?_|refine cu ?_|refine bD ?_|refine bZ ?_|refine bn ?_|refine bC ?_)|((with_reducible refine bF ?_ ?_);rfl)|((with_reducible refine bH ?_ ?_);rfl)|((with_reducible refine bJ ?_ ?_);rfl)|(with_reducible (refine bI rfl ?_ ?_);all_goals(intro hb;have hb':=hb;(try simp only[pkC]at hb');try(exfalso;omega)))|(refine rg_ ?_;intro K hK)|((with_reducible refine dN ?_ ?_);rfl)|((with_reducible refine dP ?_ ?_);(rfl;try simp only[St.put,undef,pkA,d_,e_,a_,b_]))|(with_reducible (refine eH rfl ?_ ?_);all_goals(intro hb;have hb':=hb;(try simp only[pkC]at hb');try(exfalso;omega)))|(refine hq_ ?_;clear hK K)|refine ca_ ?_ ?_|((with_reducible refine eF ?_);simp(disch:=first|decide|omega) only[↓pkS,pkW,pkA,undef,g_,h_,i_,dw,fG,lvD,fK,lcD,lvK,lcK,dh,dB,dA,ex,St.put,St.ev,kav,gdA,opI,dZ,fJ,dV,fF,fM,AV.toD,AC.toD,AV.nw,AC.nw,AC.one,c_,aA,aj,au,ay,bf,aV,if_true,if_false,f_,dW,D.one,D.ones,D.sz,D.szs,d_,e_,a_,b_,reduceIte,pkN,aK,aJ,aO,aF,aC,hsx,zle,j_,b1])|(first|(with_reducible rfl)|(with_reducible refine dD ?_;kernel_rfl)|exact aC _|exact aF _|exact el_ln _|exact el_tk _ _|exact el_td _ _ _|omega|(simp;done)|(simp;omega))|((with_reducible refine dI ?_);simp[aP,bP,bM,dL,AC.toD,aA,aj,au,ay,c_,aQ,aH,aU,aS,aW,aN,aY,aX,dQ,dR,aK,aJ,aO,aF,aC,hsx,zle,j_,b1];first|done|rfl))
     exact dS ⟨⟨_,rfl,rfl,trivial⟩,⟨_,rfl,rfl,trivial⟩⟩
    have b1:decide ((tb[i].toNat:Int)<48)=false:=decide_eq_false c1;by_cases c2:(tb[i].toNat:Int) > 57
    ·have hr:rdS m s=(0,false):=Bj (by rw[← hbl];exact Ig hlt) (Pe c2);have b2:decide ((tb[i].toNat:Int) > 57)=true:=decide_eq_true c2;rw[hr]
     repeat' (first|(with_reducible first|refine dG ?_|refine bK ?_|refine cO ?_|refine cZ ?_|refine dH ?_|refine eU ?_|refine bW ?_|refine dF ?_|refine aZ ?_|refine bG ?_|refine cu ?_|refine bD ?_|refine bZ ?_|refine bn ?_|refine bC ?_)|((with_reducible refine bF ?_ ?_);rfl)|((with_reducible refine bH ?_ ?_);rfl)|((with_reducible refine bJ ?_ ?_);rfl)|(with_reducible (refine bI rfl ?_ ?_);all_goals(intro hb;have hb':=hb;(try simp only[pkC]at hb');try(exfalso;omega)))|(refine rg_ ?_;intro K hK)|((with_reducible refine dN ?_ ?_);rfl)|((with_reducible refine dP ?_ ?_);(rfl;try simp only[St.put,undef,pkA,d_,e_,a_,b_]))|(with_reducible (refine eH rfl ?_ ?_);all_goals(intro hb;have hb':=hb;(try simp only[pkC]at hb');try(exfalso;omega)))|(refine hq_ ?_;clear hK K)|refine ca_ ?_ ?_|((with_reducible refine eF ?_);simp(disch:=first|decide|omega) only[↓pkS,pkW,pkA,undef,g_,h_,i_,dw,fG,lvD,fK,lcD,lvK,lcK,dh,dB,dA,ex,St.put,St.ev,kav,gdA,opI,dZ,fJ,dV,fF,fM,AV.toD,AC.toD,AV.nw,AC.nw,AC.one,c_,aA,aj,au,ay,bf,aV,if_true,if_false,f_,dW,D.one,D.ones,D.sz,D.szs,d_,e_,a_,b_,reduceIte,pkN,aK,aJ,aO,aF,aC,hsx,zle,j_,b1,b2])|(first|(with_reducible rfl)|(with_reducible refine dD ?_;kernel_rfl)|exact aC _|exact aF _|exact el_ln _|exact el_tk _ _|exact el_td _ _ _|omega|(simp;done)|(simp;omega))|((with_reducible refine dI ?_);simp[aP,bP,bM,dL,AC.toD,aA,aj,au,ay,c_,aQ,aH,aU,aS,aW,aN,aY,aX,dQ,dR,aK,aJ,aO,aF,aC,hsx,zle,j_,b1,b2];first|done|rfl))
     exact dS ⟨⟨_,rfl,rfl,trivial⟩,⟨_,rfl,rfl,trivial⟩⟩
    have b2:decide ((tb[i].toNat:Int) > 57)=false:=decide_eq_false c2;have hdn:∀c∈tb.data.toList.take (i+1),pR c=true:=fun c hc=>by
     rw[Bc hlt]at hc;rcases D_.1 hc with hc|hc
     ·exact hdg c hc
     ·simp only[q_]at hc;subst hc;exact O8 c1 c2
    have hnx:iI 0 (tb.data.toList.take (i+1))=iI 0 (tb.data.toList.take i)*10+(tb[i].toNat - 48):=by rw[Bc hlt,vS,jq,mW]
    have hv1:=yh (m:=18) hdn (by omega);rw[hnx,hp18]at hv1;have w1:IntKind.i64.wrap (10*((iI 0 (tb.data.toList.take i):Nat):Int))=((iI 0 (tb.data.toList.take i)*10:Nat):Int):=by rw[iY (by omega) (by omega)];omega
    have w2:IntKind.u8.wrap ((tb[i].toNat:Int) - 48)=((tb[i].toNat - 48:Nat):Int):=by rw[A8 (by omega) (by omega)];omega
    have w3:IntKind.i64.wrap ((tb[i].toNat - 48:Nat):Int)=((tb[i].toNat - 48:Nat):Int):=iY (by omega) (by omega);have w4:IntKind.i64.wrap (((iI 0 (tb.data.toList.take i)*10:Nat):Int)+((tb[i].toNat - 48:Nat):Int))=((iI 0 (tb.data.toList.take (i+1)):Nat):Int):=by rw[hnx,iY (by omega) (by omega)];omega
    clear hnx
    repeat' (first|(with_reducible first|refine dG ?_|refine bK ?_|refine cO ?_|refine cZ ?_|refine dH ?_|refine eU ?_|refine bW ?_|refine dF ?_|refine aZ ?_|refine bG ?_|refine cu ?_|refine bD ?_|refine bZ ?_|refine bn ?_|refine bC ?_)|((with_reducible refine bF ?_ ?_);rfl)|((with_reducible refine bH ?_ ?_);rfl)|((with_reducible refine bJ ?_ ?_);rfl)|(with_reducible (refine bI rfl ?_ ?_);all_goals(intro hb;have hb':=hb;(try simp only[pkC]at hb');try(exfalso;omega)))|(refine rg_ ?_;intro K hK)|((with_reducible refine dN ?_ ?_);rfl)|((with_reducible refine dP ?_ ?_);(rfl;try simp only[St.put,undef,pkA,d_,e_,a_,b_]))|(with_reducible (refine eH rfl ?_ ?_);all_goals(intro hb;have hb':=hb;(try simp only[pkC]at hb');try(exfalso;omega)))|(refine hq_ ?_;clear hK K)|refine ca_ ?_ ?_|((with_reducible refine eF ?_);simp(disch:=first|decide|omega) only[↓pkS,pkW,pkA,undef,g_,h_,i_,dw,fG,lvD,fK,lcD,lvK,lcK,dh,dB,dA,ex,St.put,St.ev,kav,gdA,opI,dZ,fJ,dV,fF,fM,AV.toD,AC.toD,AV.nw,AC.nw,AC.one,c_,aA,aj,au,ay,bf,aV,if_true,if_false,f_,dW,D.one,D.ones,D.sz,D.szs,d_,e_,a_,b_,reduceIte,pkN,aK,aJ,aO,aF,aC,hsx,zle,j_,b1,b2,w1,w2,w3,w4])|(first|(with_reducible rfl)|(with_reducible refine dD ?_;kernel_rfl)|exact aC _|exact aF _|exact el_ln _|exact el_tk _ _|exact el_td _ _ _|omega|(simp;done)|(simp;omega))|((with_reducible refine dI ?_);simp[aP,bP,bM,dL,AC.toD,aA,aj,au,ay,c_,aQ,aH,aU,aS,aW,aN,aY,aX,dQ,dR,aK,aJ,aO,aF,aC,hsx,zle,j_,b1,b2,w1,w2,w3,w4];first|done|rfl))
    refine gY (i+1) ?_ ⟨show i+1≤tb.size by omega,hdn⟩ (show tb.size - (i+1)<tb.size - i by omega);simp[gI,iM,gq,gJ,AV.fits,AC.fits,FB,fP]
   obtain rfl:i=tb.size:=by omega
   have htk:tb.data.toList.take tb.size=lI s:=by rw[← rJ tb,B_,hbl]
   have hv1:=yh (m:=18) hdg (by omega);rw[hp18]at hv1;rw[htk]at hdg hv1⊢;have hval:sD s= -((iI 0 (lI s):Nat):Int):=by unfold sD;rw[hmi];rfl
   have w5:IntKind.i64.wrap (0 - ((iI 0 (lI s):Nat):Int))= -((iI 0 (lI s):Nat):Int):=by rw[iY (by omega) (by omega)];omega
   have hfi:=iy (n:=sD s) (by rw[hval];omega) (by rw[hval];omega);rw[hval]at hfi;cases hq:((dM (sD s)).toList==s.toList)with
   | true=>
     have heq:dM (sD s)=s:=qj.1 (by simpa using hq);have hr:=SK (m:=m) hm18 hdg (by omega) heq;rw[hr,hval];rw[hval]at hq
     repeat' (first|(with_reducible first|refine dG ?_|refine bK ?_|refine cO ?_|refine cZ ?_|refine dH ?_|refine eU ?_|refine bW ?_|refine dF ?_|refine aZ ?_|refine bG ?_|refine cu ?_|refine bD ?_|refine bZ ?_|refine bn ?_|refine bC ?_)|((with_reducible refine bF ?_ ?_);rfl)|((with_reducible refine bH ?_ ?_);rfl)|((with_reducible refine bJ ?_ ?_);rfl)|(with_reducible (refine bI rfl ?_ ?_);all_goals(intro hb;have hb':=hb;(try simp only[pkC]at hb');try(exfalso;omega)))|(refine rg_ ?_;intro K hK)|((with_reducible refine dN ?_ ?_);rfl)|((with_reducible refine dP ?_ ?_);(rfl;try simp only[St.put,undef,pkA,d_,e_,a_,b_]))|(with_reducible (refine eH rfl ?_ ?_);all_goals(intro hb;have hb':=hb;(try simp only[pkC]at hb');try(exfalso;omega)))|(refine hq_ ?_;clear hK K)|refine ca_ ?_ ?_|(refine cg_ ?_;first|refine cT_ hfi ?_)|((with_reducible refine eF ?_);simp(disch:=first|decide|omega) only[↓pkS,pkW,pkA,undef,g_,h_,i_,dw,fG,lvD,fK,lcD,lvK,lcK,dh,dB,dA,ex,St.put,St.ev,kav,gdA,opI,dZ,fJ,dV,fF,fM,AV.toD,AC.toD,AV.nw,AC.nw,AC.one,c_,aA,aj,au,ay,bf,aV,if_true,if_false,f_,dW,D.one,D.ones,D.sz,D.szs,d_,e_,a_,b_,reduceIte,pkN,aK,aJ,aO,aF,aC,w5,hq])|(first|(with_reducible rfl)|(with_reducible refine dD ?_;kernel_rfl)|exact aC _|exact aF _|exact el_ln _|exact el_tk _ _|exact el_td _ _ _|omega|(simp;done)|(simp;omega))|((with_reducible refine dI ?_);simp[aP,bP,bM,dL,AC.toD,aA,aj,au,ay,c_,aQ,aH,aU,aS,aW,aN,aY,aX,dQ,dR,aK,aJ,aO,aF,aC,w5,hq];first|done|rfl))
     exact dS ⟨⟨_,rfl,rfl,trivial⟩,⟨_,rfl,rfl,trivial⟩⟩
   | false=>
     have hne:dM (sD s)≠s:=fun e=>by rw[e]at hq;simp at hq
     have hr:=Oq (m:=m) hne;rw[hr];rw[hval]at hq
     repeat' (first|(with_reducible first|refine dG ?_|refine bK ?_|refine cO ?_|refine cZ ?_|refine dH ?_|refine eU ?_|refine bW ?_|refine dF ?_|refine aZ ?_|refine bG ?_|refine cu ?_|refine bD ?_|refine bZ ?_|refine bn ?_|refine bC ?_)|((with_reducible refine bF ?_ ?_);rfl)|((with_reducible refine bH ?_ ?_);rfl)|((with_reducible refine bJ ?_ ?_);rfl)|(with_reducible (refine bI rfl ?_ ?_);all_goals(intro hb;have hb':=hb;(try simp only[pkC]at hb');try(exfalso;omega)))|(refine rg_ ?_;intro K hK)|((with_reducible refine dN ?_ ?_);rfl)|((with_reducible refine dP ?_ ?_);(rfl;try simp only[St.put,undef,pkA,d_,e_,a_,b_]))|(with_reducible (refine eH rfl ?_ ?_);all_goals(intro hb;have hb':=hb;(try simp only[pkC]at hb');try(exfalso;omega)))|(refine hq_ ?_;clear hK K)|refine ca_ ?_ ?_|(refine cg_ ?_;first|refine cT_ hfi ?_)|((with_reducible refine eF ?_);simp(disch:=first|decide|omega) only[↓pkS,pkW,pkA,undef,g_,h_,i_,dw,fG,lvD,fK,lcD,lvK,lcK,dh,dB,dA,ex,St.put,St.ev,kav,gdA,opI,dZ,fJ,dV,fF,fM,AV.toD,AC.toD,AV.nw,AC.nw,AC.one,c_,aA,aj,au,ay,bf,aV,if_true,if_false,f_,dW,D.one,D.ones,D.sz,D.szs,d_,e_,a_,b_,reduceIte,pkN,aK,aJ,aO,aF,aC,w5,hq])|(first|(with_reducible rfl)|(with_reducible refine dD ?_;kernel_rfl)|exact aC _|exact aF _|exact el_ln _|exact el_tk _ _|exact el_td _ _ _|omega|(simp;done)|(simp;omega))|((with_reducible refine dI ?_);simp[aP,bP,bM,dL,AC.toD,aA,aj,au,ay,c_,aQ,aH,aU,aS,aW,aN,aY,aX,dQ,dR,aK,aJ,aO,aF,aC,w5,hq];first|done|rfl))
     exact dS ⟨⟨_,rfl,rfl,trivial⟩,⟨_,rfl,rfl,trivial⟩⟩
  ·have hmi:=JX h0 hc;have he:((s[0].toNat:Int)==45)=false:=LY (fun e=>hc (UInt8.toNat_inj.1 (by have h45:(45:UInt8).toNat=45:=rfl;omega)));obtain⟨tb,htb⟩:∃tb,Aj s=tb:=⟨_,rfl⟩
   have hex:s=tb:=by rw[← htb];unfold Aj;rw[if_neg (by rw[hmi];decide)]
   subst hex;have hbl:s.data.toList=lI s:=(congrArg (fun z:ByteArray=>z.data.toList) htb).symm.trans (wS s);have hbn:=rJ s;rw[hbl]at hbn;have htz:s.size≤1048576:=hs;have g1:decide ((s.size:Int)<1)=false:=decide_eq_false (by omega);by_cases h2:m<s.size
   ·have hr:rdS m s=(0,false):=Bh hm18 (Or.inr (by omega)) hm1;have g2:decide ((s.size:Int) >(m:Int))=true:=decide_eq_true (by omega);rw[hr]
    repeat' (first|(with_reducible first|refine dG ?_|refine bK ?_|refine cO ?_|refine cZ ?_|refine dH ?_|refine eU ?_|refine bW ?_|refine dF ?_|refine aZ ?_|refine bG ?_|refine cu ?_|refine bD ?_|refine bZ ?_|refine bn ?_|refine bC ?_)|((with_reducible refine bF ?_ ?_);rfl)|((with_reducible refine bH ?_ ?_);rfl)|((with_reducible refine bJ ?_ ?_);rfl)|(with_reducible (refine bI rfl ?_ ?_);all_goals(intro hb;have hb':=hb;(try simp only[pkC]at hb');try(exfalso;omega)))|(refine rg_ ?_;intro K hK)|((with_reducible refine dN ?_ ?_);rfl)|((with_reducible refine dP ?_ ?_);(rfl;try simp only[St.put,undef,pkA,d_,e_,a_,b_]))|(with_reducible (refine eH rfl ?_ ?_);all_goals(intro hb;have hb':=hb;(try simp only[pkC]at hb');try(exfalso;omega)))|(refine hq_ ?_;clear hK K)|refine ca_ ?_ ?_|((with_reducible refine eF ?_);simp(disch:=first|decide|omega) only[↓pkS,pkW,pkA,undef,g_,h_,i_,dw,fG,lvD,fK,lcD,lvK,lcK,dh,dB,dA,ex,St.put,St.ev,kav,gdA,opI,dZ,fJ,dV,fF,fM,AV.toD,AC.toD,AV.nw,AC.nw,AC.one,c_,aA,aj,au,ay,bf,aV,if_true,if_false,f_,dW,D.one,D.ones,D.sz,D.szs,d_,e_,a_,b_,reduceIte,pkN,aK,aJ,aO,aF,aC,d0,hsx,hz0,hz1,he,g1,g2])|(first|(with_reducible rfl)|(with_reducible refine dD ?_;kernel_rfl)|exact aC _|exact aF _|exact el_ln _|exact el_tk _ _|exact el_td _ _ _|omega|(simp;done)|(simp;omega))|((with_reducible refine dI ?_);simp[aP,bP,bM,dL,AC.toD,aA,aj,au,ay,c_,aQ,aH,aU,aS,aW,aN,aY,aX,dQ,dR,aK,aJ,aO,aF,aC,d0,hsx,hz0,hz1,he,g1,g2];first|done|rfl))
    exact dS ⟨⟨_,rfl,rfl,trivial⟩,⟨_,rfl,rfl,trivial⟩⟩
   have g2:decide ((s.size:Int) >(m:Int))=false:=decide_eq_false (by omega)
   repeat' (first|(with_reducible first|refine dG ?_|refine bK ?_|refine cO ?_|refine cZ ?_|refine dH ?_|refine eU ?_|refine bW ?_|refine dF ?_|refine aZ ?_|refine bG ?_|refine cu ?_|refine bD ?_|refine bZ ?_|refine bn ?_|refine bC ?_)|((with_reducible refine bF ?_ ?_);rfl)|((with_reducible refine bH ?_ ?_);rfl)|((with_reducible refine bJ ?_ ?_);rfl)|(with_reducible (refine bI rfl ?_ ?_);all_goals(intro hb;have hb':=hb;(try simp only[pkC]at hb');try(exfalso;omega)))|(refine rg_ ?_;intro K hK)|((with_reducible refine dN ?_ ?_);rfl)|((with_reducible refine dP ?_ ?_);(rfl;try simp only[St.put,undef,pkA,d_,e_,a_,b_]))|(with_reducible (refine eH rfl ?_ ?_);all_goals(intro hb;have hb':=hb;(try simp only[pkC]at hb');try(exfalso;omega)))|(refine hq_ ?_;clear hK K)|refine ca_ ?_ ?_|((with_reducible refine eF ?_);simp(disch:=first|decide|omega) only[↓pkS,pkW,pkA,undef,g_,h_,i_,dw,fG,lvD,fK,lcD,lvK,lcK,dh,dB,dA,ex,St.put,St.ev,kav,gdA,opI,dZ,fJ,dV,fF,fM,AV.toD,AC.toD,AV.nw,AC.nw,AC.one,c_,aA,aj,au,ay,bf,aV,if_true,if_false,f_,dW,D.one,D.ones,D.sz,D.szs,d_,e_,a_,b_,reduceIte,pkN,aK,aJ,aO,aF,aC,d0,hsx,hz0,hz1,he,g1,g2])|(first|(with_reducible rfl)|(with_reducible refine dD ?_;kernel_rfl)|exact aC _|exact aF _|exact el_ln _|exact el_tk _ _|exact el_td _ _ _|omega|(simp;done)|(simp;omega))|((with_reducible refine dI ?_);simp[aP,bP,bM,dL,AC.toD,aA,aj,au,ay,c_,aQ,aH,aU,aS,aW,aN,aY,aX,dQ,dR,aK,aJ,aO,aF,aC,d0,hsx,hz0,hz1,he,g1,g2];first|done|rfl))
   clear g1 g2 d0 hsx hz0 hz1 he;refine iU (X:=Nat) (fun q=> [.k,.d,.d,.d,.d,.d,.k,.k,.v (.c false [.raw (.int .i64 (iI 0 (s.data.toList.take q):Nat))]),.v (.c false [.raw (.int .i64 (q:Nat))])]) (fun q=> []) (fun q bs=> []) (fun q=>q≤s.size∧∀c∈s.data.toList.take q,pR c=true) (fun q=>s.size - q) 0 ⟨s_ _,fun c hc=>by simp at hc⟩ ?_ ?_
   ·simp[gI,iM,gq,gJ,AV.fits,AC.fits,FB,fP,mW]
   rintro i ⟨hi,hdg⟩;simp only[FB,fP];have hp18:(10:Nat) ^ 18=1000000000000000000:=by decide
   by_cases hlt:i<s.size
   ·have hsx:=BG hlt;by_cases c1:(s[i].toNat:Int)<48
    ·have hr:rdS m s=(0,false):=Bj (by rw[← hbl];exact Ig hlt) (O9 c1);have b1:decide ((s[i].toNat:Int)<48)=true:=decide_eq_true c1;rw[hr]
     repeat' (first|(with_reducible first|refine dG ?_|refine bK ?_|refine cO ?_|refine cZ ?_|refine dH ?_|refine eU ?_|refine bW ?_|refine dF ?_|refine aZ ?_|refine bG ?_|refine cu ?_|refine bD ?_|refine bZ ?_|refine bn ?_|refine bC ?_)|((with_reducible refine bF ?_ ?_);rfl)|((with_reducible refine bH ?_ ?_);rfl)|((with_reducible refine bJ ?_ ?_);rfl)|(with_reducible (refine bI rfl ?_ ?_);all_goals(intro hb;have hb':=hb;(try simp only[pkC]at hb');try(exfalso;omega)))|(refine rg_ ?_;intro K hK)|((with_reducible refine dN ?_ ?_);rfl)|((with_reducible refine dP ?_ ?_);(rfl;try simp only[St.put,undef,pkA,d_,e_,a_,b_]))|(with_reducible (refine eH rfl ?_ ?_);all_goals(intro hb;have hb':=hb;(try simp only[pkC]at hb');try(exfalso;omega)))|(refine hq_ ?_;clear hK K)|refine ca_ ?_ ?_|((with_reducible refine eF ?_);simp(disch:=first|decide|omega) only[↓pkS,pkW,pkA,undef,g_,h_,i_,dw,fG,lvD,fK,lcD,lvK,lcK,dh,dB,dA,ex,St.put,St.ev,kav,gdA,opI,dZ,fJ,dV,fF,fM,AV.toD,AC.toD,AV.nw,AC.nw,AC.one,c_,aA,aj,au,ay,bf,aV,if_true,if_false,f_,dW,D.one,D.ones,D.sz,D.szs,d_,e_,a_,b_,reduceIte,pkN,aK,aJ,aO,aF,aC,hsx,zle,j_,b1])|(first|(with_reducible rfl)|(with_reducible refine dD ?_;kernel_rfl)|exact aC _|exact aF _|exact el_ln _|exact el_tk _ _|exact el_td _ _ _|omega|(simp;done)|(simp;omega))|((with_reducible refine dI ?_);simp[aP,bP,bM,dL,AC.toD,aA,aj,au,ay,c_,aQ,aH,aU,aS,aW,aN,aY,aX,dQ,dR,aK,aJ,aO,aF,aC,hsx,zle,j_,b1];first|done|rfl))
     exact dS ⟨⟨_,rfl,rfl,trivial⟩,⟨_,rfl,rfl,trivial⟩⟩
    have b1:decide ((s[i].toNat:Int)<48)=false:=decide_eq_false c1;by_cases c2:(s[i].toNat:Int) > 57
    ·have hr:rdS m s=(0,false):=Bj (by rw[← hbl];exact Ig hlt) (Pe c2);have b2:decide ((s[i].toNat:Int) > 57)=true:=decide_eq_true c2;rw[hr]
     repeat' (first|(with_reducible first|refine dG ?_|refine bK ?_|refine cO ?_|refine cZ ?_|refine dH ?_|refine eU ?_|refine bW ?_|refine dF ?_|refine aZ ?_|refine bG ?_|refine cu ?_|refine bD ?_|refine bZ ?_|refine bn ?_|refine bC ?_)|((with_reducible refine bF ?_ ?_);rfl)|((with_reducible refine bH ?_ ?_);rfl)|((with_reducible refine bJ ?_ ?_);rfl)|(with_reducible (refine bI rfl ?_ ?_);all_goals(intro hb;have hb':=hb;(try simp only[pkC]at hb');try(exfalso;omega)))|(refine rg_ ?_;intro K hK)|((with_reducible refine dN ?_ ?_);rfl)|((with_reducible refine dP ?_ ?_);(rfl;try simp only[St.put,undef,pkA,d_,e_,a_,b_]))|(with_reducible (refine eH rfl ?_ ?_);all_goals(intro hb;have hb':=hb;(try simp only[pkC]at hb');try(exfalso;omega)))|(refine hq_ ?_;clear hK K)|refine ca_ ?_ ?_|((with_reducible refine eF ?_);simp(disch:=first|decide|omega) only[↓pkS,pkW,pkA,undef,g_,h_,i_,dw,fG,lvD,fK,lcD,lvK,lcK,dh,dB,dA,ex,St.put,St.ev,kav,gdA,opI,dZ,fJ,dV,fF,fM,AV.toD,AC.toD,AV.nw,AC.nw,AC.one,c_,aA,aj,au,ay,bf,aV,if_true,if_false,f_,dW,D.one,D.ones,D.sz,D.szs,d_,e_,a_,b_,reduceIte,pkN,aK,aJ,aO,aF,aC,hsx,zle,j_,b1,b2])|(first|(with_reducible rfl)|(with_reducible refine dD ?_;kernel_rfl)|exact aC _|exact aF _|exact el_ln _|exact el_tk _ _|exact el_td _ _ _|omega|(simp;done)|(simp;omega))|((with_reducible refine dI ?_);simp[aP,bP,bM,dL,AC.toD,aA,aj,au,ay,c_,aQ,aH,aU,aS,aW,aN,aY,aX,dQ,dR,aK,aJ,aO,aF,aC,hsx,zle,j_,b1,b2];first|done|rfl))
     exact dS ⟨⟨_,rfl,rfl,trivial⟩,⟨_,rfl,rfl,trivial⟩⟩
    have b2:decide ((s[i].toNat:Int) > 57)=false:=decide_eq_false c2;have hdn:∀c∈s.data.toList.take (i+1),pR c=true:=fun c hc=>by
     rw[Bc hlt]at hc;rcases D_.1 hc with hc|hc
     ·exact hdg c hc
     ·simp only[q_]at hc;subst hc;exact O8 c1 c2
    have hnx:iI 0 (s.data.toList.take (i+1))=iI 0 (s.data.toList.take i)*10+(s[i].toNat - 48):=by rw[Bc hlt,vS,jq,mW]
    have hv1:=yh (m:=18) hdn (by omega);rw[hnx,hp18]at hv1;have w1:IntKind.i64.wrap (10*((iI 0 (s.data.toList.take i):Nat):Int))=((iI 0 (s.data.toList.take i)*10:Nat):Int):=by rw[iY (by omega) (by omega)];omega
    have w2:IntKind.u8.wrap ((s[i].toNat:Int) - 48)=((s[i].toNat - 48:Nat):Int):=by rw[A8 (by omega) (by omega)];omega
    have w3:IntKind.i64.wrap ((s[i].toNat - 48:Nat):Int)=((s[i].toNat - 48:Nat):Int):=iY (by omega) (by omega);have w4:IntKind.i64.wrap (((iI 0 (s.data.toList.take i)*10:Nat):Int)+((s[i].toNat - 48:Nat):Int))=((iI 0 (s.data.toList.take (i+1)):Nat):Int):=by rw[hnx,iY (by omega) (by omega)];omega
    clear hnx
    repeat' (first|(with_reducible first|refine dG ?_|refine bK ?_|refine cO ?_|refine cZ ?_|refine dH ?_|refine eU ?_|refine bW ?_|refine dF ?_|refine aZ ?_|refine bG ?_|refine cu ?_|refine bD ?_|refine bZ ?_|refine bn ?_|refine bC ?_)|((with_reducible refine bF ?_ ?_);rfl)|((with_reducible refine bH ?_ ?_);rfl)|((with_reducible refine bJ ?_ ?_);rfl)|(with_reducible (refine bI rfl ?_ ?_);all_goals(intro hb;have hb':=hb;(try simp only[pkC]at hb');try(exfalso;omega)))|(refine rg_ ?_;intro K hK)|((with_reducible refine dN ?_ ?_);rfl)|((with_reducible refine dP ?_ ?_);(rfl;try simp only[St.put,undef,pkA,d_,e_,a_,b_]))|(with_reducible (refine eH rfl ?_ ?_);all_goals(intro hb;have hb':=hb;(try simp only[pkC]at hb');try(exfalso;omega)))|(refine hq_ ?_;clear hK K)|refine ca_ ?_ ?_|((with_reducible refine eF ?_);simp(disch:=first|decide|omega) only[↓pkS,pkW,pkA,undef,g_,h_,i_,dw,fG,lvD,fK,lcD,lvK,lcK,dh,dB,dA,ex,St.put,St.ev,kav,gdA,opI,dZ,fJ,dV,fF,fM,AV.toD,AC.toD,AV.nw,AC.nw,AC.one,c_,aA,aj,au,ay,bf,aV,if_true,if_false,f_,dW,D.one,D.ones,D.sz,D.szs,d_,e_,a_,b_,reduceIte,pkN,aK,aJ,aO,aF,aC,hsx,zle,j_,b1,b2,w1,w2,w3,w4])|(first|(with_reducible rfl)|(with_reducible refine dD ?_;kernel_rfl)|exact aC _|exact aF _|exact el_ln _|exact el_tk _ _|exact el_td _ _ _|omega|(simp;done)|(simp;omega))|((with_reducible refine dI ?_);simp[aP,bP,bM,dL,AC.toD,aA,aj,au,ay,c_,aQ,aH,aU,aS,aW,aN,aY,aX,dQ,dR,aK,aJ,aO,aF,aC,hsx,zle,j_,b1,b2,w1,w2,w3,w4];first|done|rfl))
    refine gY (i+1) ?_ ⟨show i+1≤s.size by omega,hdn⟩ (show s.size - (i+1)<s.size - i by omega);simp[gI,iM,gq,gJ,AV.fits,AC.fits,FB,fP]
   obtain rfl:i=s.size:=by omega
   have htk:s.data.toList.take s.size=lI s:=by rw[← rJ s,B_,hbl]
   have hv1:=yh (m:=18) hdg (by omega);rw[hp18]at hv1;rw[htk]at hdg hv1⊢;have hval:sD s=((iI 0 (lI s):Nat):Int):=by unfold sD;rw[hmi];rfl
   have hfi:=iy (n:=sD s) (by rw[hval];omega) (by rw[hval];omega);rw[hval]at hfi;cases hq:((dM (sD s)).toList==s.toList)with
   | true=>
     have heq:dM (sD s)=s:=qj.1 (by simpa using hq);have hr:=SK (m:=m) hm18 hdg (by omega) heq;rw[hr,hval];rw[hval]at hq
     repeat' (first|(with_reducible first|refine dG ?_|refine bK ?_|refine cO ?_|refine cZ ?_|refine dH ?_|refine eU ?_|refine bW ?_|refine dF ?_|refine aZ ?_|refine bG ?_|refine cu ?_|refine bD ?_|refine bZ ?_|refine bn ?_|refine bC ?_)|((with_reducible refine bF ?_ ?_);rfl)|((with_reducible refine bH ?_ ?_);rfl)|((with_reducible refine bJ ?_ ?_);rfl)|(with_reducible (refine bI rfl ?_ ?_);all_goals(intro hb;have hb':=hb;(try simp only[pkC]at hb');try(exfalso;omega)))|(refine rg_ ?_;intro K hK)|((with_reducible refine dN ?_ ?_);rfl)|((with_reducible refine dP ?_ ?_);(rfl;try simp only[St.put,undef,pkA,d_,e_,a_,b_]))|(with_reducible (refine eH rfl ?_ ?_);all_goals(intro hb;have hb':=hb;(try simp only[pkC]at hb');try(exfalso;omega)))|(refine hq_ ?_;clear hK K)|refine ca_ ?_ ?_|(refine cg_ ?_;first|refine cT_ hfi ?_)|((with_reducible refine eF ?_);simp(disch:=first|decide|omega) only[↓pkS,pkW,pkA,undef,g_,h_,i_,dw,fG,lvD,fK,lcD,lvK,lcK,dh,dB,dA,ex,St.put,St.ev,kav,gdA,opI,dZ,fJ,dV,fF,fM,AV.toD,AC.toD,AV.nw,AC.nw,AC.one,c_,aA,aj,au,ay,bf,aV,if_true,if_false,f_,dW,D.one,D.ones,D.sz,D.szs,d_,e_,a_,b_,reduceIte,pkN,aK,aJ,aO,aF,aC,hq])|(first|(with_reducible rfl)|(with_reducible refine dD ?_;kernel_rfl)|exact aC _|exact aF _|exact el_ln _|exact el_tk _ _|exact el_td _ _ _|omega|(simp;done)|(simp;omega))|((with_reducible refine dI ?_);simp[aP,bP,bM,dL,AC.toD,aA,aj,au,ay,c_,aQ,aH,aU,aS,aW,aN,aY,aX,dQ,dR,aK,aJ,aO,aF,aC,hq];first|done|rfl))
     exact dS ⟨⟨_,rfl,rfl,trivial⟩,⟨_,rfl,rfl,trivial⟩⟩
   | false=>
     have hne:dM (sD s)≠s:=fun e=>by rw[e]at hq;simp at hq
     have hr:=Oq (m:=m) hne;rw[hr];rw[hval]at hq
     repeat' (first|(with_reducible first|refine dG ?_|refine bK ?_|refine cO ?_|refine cZ ?_|refine dH ?_|refine eU ?_|refine bW ?_|refine dF ?_|refine aZ ?_|refine bG ?_|refine cu ?_|refine bD ?_|refine bZ ?_|refine bn ?_|refine bC ?_)|((with_reducible refine bF ?_ ?_);rfl)|((with_reducible refine bH ?_ ?_);rfl)|((with_reducible refine bJ ?_ ?_);rfl)|(with_reducible (refine bI rfl ?_ ?_);all_goals(intro hb;have hb':=hb;(try simp only[pkC]at hb');try(exfalso;omega)))|(refine rg_ ?_;intro K hK)|((with_reducible refine dN ?_ ?_);rfl)|((with_reducible refine dP ?_ ?_);(rfl;try simp only[St.put,undef,pkA,d_,e_,a_,b_]))|(with_reducible (refine eH rfl ?_ ?_);all_goals(intro hb;have hb':=hb;(try simp only[pkC]at hb');try(exfalso;omega)))|(refine hq_ ?_;clear hK K)|refine ca_ ?_ ?_|(refine cg_ ?_;first|refine cT_ hfi ?_)|((with_reducible refine eF ?_);simp(disch:=first|decide|omega) only[↓pkS,pkW,pkA,undef,g_,h_,i_,dw,fG,lvD,fK,lcD,lvK,lcK,dh,dB,dA,ex,St.put,St.ev,kav,gdA,opI,dZ,fJ,dV,fF,fM,AV.toD,AC.toD,AV.nw,AC.nw,AC.one,c_,aA,aj,au,ay,bf,aV,if_true,if_false,f_,dW,D.one,D.ones,D.sz,D.szs,d_,e_,a_,b_,reduceIte,pkN,aK,aJ,aO,aF,aC,hq])|(first|(with_reducible rfl)|(with_reducible refine dD ?_;kernel_rfl)|exact aC _|exact aF _|exact el_ln _|exact el_tk _ _|exact el_td _ _ _|omega|(simp;done)|(simp;omega))|((with_reducible refine dI ?_);simp[aP,bP,bM,dL,AC.toD,aA,aj,au,ay,c_,aQ,aH,aU,aS,aW,aN,aY,aX,dQ,dR,aK,aJ,aO,aF,aC,hq];first|done|rfl))
     exact dS ⟨⟨_,rfl,rfl,trivial⟩,⟨_,rfl,rfl,trivial⟩⟩
 ·have d0:decide ((s.size:Int) > 0)=false:=decide_eq_false (by omega);have hmi:=JY h0;obtain⟨tb,htb⟩:∃tb,Aj s=tb:=⟨_,rfl⟩
  have hex:s=tb:=by rw[← htb];unfold Aj;rw[if_neg (by rw[hmi];decide)]
  have hr:rdS m s=(0,false):=Bh hm18 (Or.inl (by rw[← wS,rJ,htb,← hex];omega)) hm1;have g1:decide ((s.size:Int)<1)=true:=decide_eq_true (by omega);rw[hr]
  repeat' (first|(with_reducible first|refine dG ?_|refine bK ?_|refine cO ?_|refine cZ ?_|refine dH ?_|refine eU ?_|refine bW ?_|refine dF ?_|refine aZ ?_|refine bG ?_|refine cu ?_|refine bD ?_|refine bZ ?_|refine bn ?_|refine bC ?_)|((with_reducible refine bF ?_ ?_);rfl)|((with_reducible refine bH ?_ ?_);rfl)|((with_reducible refine bJ ?_ ?_);rfl)|(with_reducible (refine bI rfl ?_ ?_);all_goals(intro hb;have hb':=hb;(try simp only[pkC]at hb');try(exfalso;omega)))|(refine rg_ ?_;intro K hK)|((with_reducible refine dN ?_ ?_);rfl)|((with_reducible refine dP ?_ ?_);(rfl;try simp only[St.put,undef,pkA,d_,e_,a_,b_]))|(with_reducible (refine eH rfl ?_ ?_);all_goals(intro hb;have hb':=hb;(try simp only[pkC]at hb');try(exfalso;omega)))|(refine hq_ ?_;clear hK K)|refine ca_ ?_ ?_|((with_reducible refine eF ?_);simp(disch:=first|decide|omega) only[↓pkS,pkW,pkA,undef,g_,h_,i_,dw,fG,lvD,fK,lcD,lvK,lcK,dh,dB,dA,ex,St.put,St.ev,kav,gdA,opI,dZ,fJ,dV,fF,fM,AV.toD,AC.toD,AV.nw,AC.nw,AC.one,c_,aA,aj,au,ay,bf,aV,if_true,if_false,f_,dW,D.one,D.ones,D.sz,D.szs,d_,e_,a_,b_,reduceIte,pkN,aK,aJ,aO,aF,aC,d0,g1])|(first|(with_reducible rfl)|(with_reducible refine dD ?_;kernel_rfl)|exact aC _|exact aF _|exact el_ln _|exact el_tk _ _|exact el_td _ _ _|omega|(simp;done)|(simp;omega))|((with_reducible refine dI ?_);simp[aP,bP,bM,dL,AC.toD,aA,aj,au,ay,c_,aQ,aH,aU,aS,aW,aN,aY,aX,dQ,dR,aK,aJ,aO,aF,aC,d0,g1];first|done|rfl))
  exact dS ⟨⟨_,rfl,rfl,trivial⟩,⟨_,rfl,rfl,trivial⟩⟩
theorem UN{a b:Int}(h:dM a=dM b):a=b:=by rw[← G6 a,← G6 b,h]
theorem Wx{lo hi a b:Int}(s:ByteArray)(h1:a≤lo)(h2:hi≤b)(ha: -9223372036854775808≤a)(hb:b≤9223372036854775807):
 rdN lo hi s=if(rdN a b s).2=true∧lo≤(rdN a b s).1∧(rdN a b s).1≤hi then((rdN a b s).1,true)else(0,false):=by
 rcases yP a b s with⟨n,g1,g2,g3,g4⟩|⟨g1,g2⟩
 ·rw[g4];by_cases h:lo≤n∧n≤hi
  ·rw[if_pos ⟨rfl,h.1,h.2⟩];exact ug (by omega) (by omega) h.1 h.2 g3
  ·rw[if_neg (fun hc=>h hc.2)];refine uh fun m m1 m2 m3=> ?_
   have:=UN (m3.trans g3.symm);subst this;exact h ⟨m1,m2⟩
 ·rw[g2,if_neg (fun hc=>by simp at hc)];exact uh fun m m1 m2 m3=>g1 m (by omega) (by omega) (by omega) (by omega) m3
theorem YS(s:ByteArray):rdS 6 s=rdN (-999999) 999999 s:=rfl
theorem Yf(lo hi:Int)(s:ByteArray):(rdN lo hi s).2=true→lo≤(rdN lo hi s).1∧(rdN lo hi s).1≤hi:=by
 intro h;rcases yP lo hi s with⟨n,g1,g2,g3,g4⟩|⟨g1,g2⟩
 ·rw[g4];exact⟨g1,g2⟩
 ·rw[g2]at h;cases h
theorem MV(sep:ByteArray)(h1:1≤sep.size):∀(k:Nat) (s:ByteArray),s.size≤k→∀x∈cut sep s,x.size≤s.size:=by
 intro k
 induction k with
 | zero=>
   intro s hs x hx;have hs0:s.size=0:=by omega
   have:cut sep s= [s]:=by
    have:=uT s sep (a:=0) (fun j _ _=>by
     unfold I_;have e:s.data.toList= []:=List.eq_nil_of_length_eq_zero (by simpa using hs0);rw[e,List.drop_nil];have:sep.data.toList≠[]:=fun hn=>by
      have h0:=lZ sep;rw[hn,l_]at h0;omega
     cases hq:sep.data.toList with
     |nil=>exact absurd hq this
     |cons a b=>rfl) (s_ _)
    rwa[oK]at this
   rw[this]at hx;simp only[q_]at hx;subst hx;exact k_ _
 | succ k ih=>
   intro s hs x hx;rcases Lib.index_spec s.data.toList sep.data.toList with⟨h,hn⟩|⟨i,h2,h3,h4,h5⟩
   ·have:=uT s sep (a:=0) (fun j _ hj=>hn j (by simpa using hj)) (s_ _);rw[oK]at this;rw[this]at hx;simp only[q_]at hx;subst hx;exact k_ _
   ·have hroom:=Lib.index_room s.data.toList sep.data.toList (by omega);rw[h2]at hroom;simp only[lZ]at hroom;have:=BH s sep (a:=0) (i:=i) h1 (s_ _) (by omega) (fun j _ hj=>h5 j hj) h4;rw[oK]at this;rw[this]at hx;rcases List.mem_cons.1 hx with rfl|hx
    ·simp;omega
    ·have hsz:(s.extract (i+sep.size) s.size).size=s.size - (i+sep.size):=by simp
     have:=ih _ (by omega) x hx;omega
theorem rU{sep s x:ByteArray}(h1:1≤sep.size)(hx:x∈cut sep s):x.size≤s.size:=MV sep h1 s.size s (k_ _) x hx
def Dx :IC:=(zd_ [zk_ 2 0,zj_ 3 false] (zd_ [zw_ 7 0,zz_ 8 (.call 78 [(.t 7),(.k (.int .i64 0)),(.k (.int .i64 999999))]),zw_ 6 8,zz_ 9 (.ext 0 (.t 6)),zz_ 10 (.ext 1 (.t 6)),zw_ 4 9,zw_ 5 10] (zd_ [zw_ 11 4,zw_ 12 5,zw_ 2 11,zw_ 3 12] .ret)))
theorem Fb :bg Tryz.prog (Tryz.f59.body.getD .skip)=some Dx:=by kernel_rfl
theorem jS(s:ByteArray)(hs:s.size≤1048576):dK Tryz.prog 59 [ls s] (H6 (rdN 0 999999 s)):=by
 refine nY (fn:=Tryz.f59) (r:= .tmp 2) (q:= .tmp 3) (by kernel_rfl) (by kernel_rfl) (by kernel_rfl) rfl Fb ?_;unfold Dx;refine zb_ ?_;change AWP _ _ _ (st0 13 _);simp only[undef,stS,st0,stN,D.av,D.avN,aW,aN,aY,aX,aO,iL,aK,aJ,t_,w_,r_,n_,p_,o_,l_,d_,e_];have hi:=TU s 0 999999 hs
 repeat' (first|(with_reducible first|refine dG ?_|refine bK ?_|refine cO ?_|refine cZ ?_|refine dH ?_|refine eU ?_|refine bW ?_|refine dF ?_|refine aZ ?_|refine bG ?_|refine cu ?_|refine bD ?_|refine bZ ?_|refine bn ?_|refine bC ?_)|((with_reducible refine bF ?_ ?_);rfl)|((with_reducible refine bH ?_ ?_);rfl)|((with_reducible refine bJ ?_ ?_);rfl)|(with_reducible (refine bI rfl ?_ ?_);all_goals(intro hb;have hb':=hb;(try simp only[pkC]at hb');try(exfalso;omega)))|(refine rg_ ?_;intro K hK)|(refine hq_ ?_;clear hK K)|refine ca_ ?_ ?_|(refine cg_ ?_;first|refine cT_ hi ?_)|((with_reducible refine eF ?_);simp(disch:=first|decide|omega) only[↓pkS,pkW,pkA,undef,g_,h_,i_,dw,fG,lvD,fK,lcD,lvK,lcK,dh,dB,dA,ex,St.put,St.ev,kav,gdA,opI,dZ,fJ,dV,fF,fM,AV.toD,AC.toD,AV.nw,AC.nw,AC.one,c_,aA,aj,au,ay,bf,aV,if_true,if_false,f_,dW,D.one,D.ones,D.sz,D.szs,d_,e_,a_,b_,reduceIte,pkN,aK,aJ,aO,aF,aC])|(first|(with_reducible rfl)|(with_reducible refine dD ?_;kernel_rfl)|exact aC _|exact aF _|exact el_ln _|exact el_tk _ _|exact el_td _ _ _|omega|(simp;done)|(simp;omega))|((with_reducible refine dI ?_);simp[aP,bP,bM,dL,AC.toD,aA,aj,au,ay,c_,aQ,aH,aU,aS,aW,aN,aY,aX,dQ,dR,aK,aJ,aO,aF,aC];first|done|rfl))
 exact dS ⟨⟨_,rfl,rfl,trivial⟩,⟨_,rfl,rfl,trivial⟩⟩
def Dw :IC:=(zd_ [zk_ 2 0,zj_ 3 false] (zd_ [zw_ 7 0,zn_ 8 110 7 6,zw_ 6 8,zz_ 9 (.ext 0 (.t 6)),zz_ 10 (.ext 1 (.t 6)),zw_ 4 9,zw_ 5 10] (.seq (zd_ [zw_ 11 5,zz_ 12 (.not (.t 11)),zw_ 13 12,zu_ 14 13 4,zx_ 15 13 (.bin .lss (.t 14) (.k (.int .i64 0))),zg_ 16 13 true 15] (.cond (.t 16) (zd_ [zk_ 2 0,zj_ 3 false] .ret) .skip)) (zd_ [zw_ 17 4,zw_ 2 17,zj_ 3 true] .ret))))
theorem Fa :bg Tryz.prog (Tryz.f94.body.getD .skip)=some Dw:=by kernel_rfl
theorem jR(s:ByteArray)(hs:s.size≤1048576):dK Tryz.prog 94 [ls s] (H6 (rdN 0 999999 s)):=by
 refine nY (fn:=Tryz.f94) (r:= .tmp 2) (q:= .tmp 3) (by kernel_rfl) (by kernel_rfl) (by kernel_rfl) rfl Fa ?_;unfold Dw;refine zb_ ?_;change AWP _ _ _ (st0 18 _);simp only[undef,stS,st0,stN,D.av,D.avN,aW,aN,aY,aX,aO,iL,aK,aJ,t_,w_,r_,n_,p_,o_,l_,d_,e_];have hi:=QE s 6 (by decide) (by decide) hs;have hx:=Wx (lo:=0) (hi:=999999) (a:= -999999) (b:=999999) s (by decide) (by decide) (by decide) (by decide);have hh:=Yf (-999999) 999999 s;rw[YS]at hi;rw[hx];generalize rdN (-999999) 999999 s=q at*;obtain⟨v,b⟩:=q;simp only at hh hx⊢;cases b with
 | false=>
   rw[if_neg (fun hc=>by cases hc.1)]
   repeat' (first|(with_reducible first|refine dG ?_|refine bK ?_|refine cO ?_|refine cZ ?_|refine dH ?_|refine eU ?_|refine bW ?_|refine dF ?_|refine aZ ?_|refine bG ?_|refine cu ?_|refine bD ?_|refine bZ ?_|refine bn ?_|refine bC ?_)|((with_reducible refine bF ?_ ?_);rfl)|((with_reducible refine bH ?_ ?_);rfl)|((with_reducible refine bJ ?_ ?_);rfl)|(with_reducible (refine bI rfl ?_ ?_);all_goals(intro hb;have hb':=hb;(try simp only[pkC]at hb');try(exfalso;omega)))|(refine rg_ ?_;intro K hK)|((with_reducible refine dN ?_ ?_);rfl)|((with_reducible refine dP ?_ ?_);(rfl;try simp only[St.put,undef,pkA,d_,e_,a_,b_]))|(with_reducible (refine eH rfl ?_ ?_);all_goals(intro hb;have hb':=hb;(try simp only[pkC]at hb');try(exfalso;omega)))|(refine hq_ ?_;clear hK K)|refine ca_ ?_ ?_|(refine cg_ ?_;first|refine cT_ hi ?_)|((with_reducible refine eF ?_);simp(disch:=first|decide|omega) only[↓pkS,pkW,pkA,undef,g_,h_,i_,dw,fG,lvD,fK,lcD,lvK,lcK,dh,dB,dA,ex,St.put,St.ev,kav,gdA,opI,dZ,fJ,dV,fF,fM,AV.toD,AC.toD,AV.nw,AC.nw,AC.one,c_,aA,aj,au,ay,bf,aV,if_true,if_false,f_,dW,D.one,D.ones,D.sz,D.szs,d_,e_,a_,b_,reduceIte,pkN,aK,aJ,aO,aF,aC])|(first|(with_reducible rfl)|(with_reducible refine dD ?_;kernel_rfl)|exact aC _|exact aF _|exact el_ln _|exact el_tk _ _|exact el_td _ _ _|omega|(simp;done)|(simp;omega))|((with_reducible refine dI ?_);simp[aP,bP,bM,dL,AC.toD,aA,aj,au,ay,c_,aQ,aH,aU,aS,aW,aN,aY,aX,dQ,dR,aK,aJ,aO,aF,aC];first|done|rfl))
   exact dS ⟨⟨_,rfl,rfl,trivial⟩,⟨_,rfl,rfl,trivial⟩⟩
 | true=>
   have hb:=hh rfl;by_cases hv:v<0
   ·have hd:decide (v<0)=true:=decide_eq_true hv;rw[if_neg (fun hc=>by omega)]
    repeat' (first|(with_reducible first|refine dG ?_|refine bK ?_|refine cO ?_|refine cZ ?_|refine dH ?_|refine eU ?_|refine bW ?_|refine dF ?_|refine aZ ?_|refine bG ?_|refine cu ?_|refine bD ?_|refine bZ ?_|refine bn ?_|refine bC ?_)|((with_reducible refine bF ?_ ?_);rfl)|((with_reducible refine bH ?_ ?_);rfl)|((with_reducible refine bJ ?_ ?_);rfl)|(with_reducible (refine bI rfl ?_ ?_);all_goals(intro hb;have hb':=hb;(try simp only[pkC]at hb');try(exfalso;omega)))|(refine rg_ ?_;intro K hK)|((with_reducible refine dN ?_ ?_);rfl)|((with_reducible refine dP ?_ ?_);(rfl;try simp only[St.put,undef,pkA,d_,e_,a_,b_]))|(with_reducible (refine eH rfl ?_ ?_);all_goals(intro hb;have hb':=hb;(try simp only[pkC]at hb');try(exfalso;omega)))|(refine hq_ ?_;clear hK K)|refine ca_ ?_ ?_|(refine cg_ ?_;first|refine cT_ hi ?_)|((with_reducible refine eF ?_);simp(disch:=first|decide|omega) only[↓pkS,pkW,pkA,undef,g_,h_,i_,dw,fG,lvD,fK,lcD,lvK,lcK,dh,dB,dA,ex,St.put,St.ev,kav,gdA,opI,dZ,fJ,dV,fF,fM,AV.toD,AC.toD,AV.nw,AC.nw,AC.one,c_,aA,aj,au,ay,bf,aV,if_true,if_false,f_,dW,D.one,D.ones,D.sz,D.szs,d_,e_,a_,b_,reduceIte,pkN,aK,aJ,aO,aF,aC,hd])|(first|(with_reducible rfl)|(with_reducible refine dD ?_;kernel_rfl)|exact aC _|exact aF _|exact el_ln _|exact el_tk _ _|exact el_td _ _ _|omega|(simp;done)|(simp;omega))|((with_reducible refine dI ?_);simp[aP,bP,bM,dL,AC.toD,aA,aj,au,ay,c_,aQ,aH,aU,aS,aW,aN,aY,aX,dQ,dR,aK,aJ,aO,aF,aC,hd];first|done|rfl))
    exact dS ⟨⟨_,rfl,rfl,trivial⟩,⟨_,rfl,rfl,trivial⟩⟩
   ·have hd:decide (v<0)=false:=decide_eq_false hv;rw[if_pos ⟨rfl,by omega,by omega⟩]
    repeat' (first|(with_reducible first|refine dG ?_|refine bK ?_|refine cO ?_|refine cZ ?_|refine dH ?_|refine eU ?_|refine bW ?_|refine dF ?_|refine aZ ?_|refine bG ?_|refine cu ?_|refine bD ?_|refine bZ ?_|refine bn ?_|refine bC ?_)|((with_reducible refine bF ?_ ?_);rfl)|((with_reducible refine bH ?_ ?_);rfl)|((with_reducible refine bJ ?_ ?_);rfl)|(with_reducible (refine bI rfl ?_ ?_);all_goals(intro hb;have hb':=hb;(try simp only[pkC]at hb');try(exfalso;omega)))|(refine rg_ ?_;intro K hK)|((with_reducible refine dN ?_ ?_);rfl)|((with_reducible refine dP ?_ ?_);(rfl;try simp only[St.put,undef,pkA,d_,e_,a_,b_]))|(with_reducible (refine eH rfl ?_ ?_);all_goals(intro hb;have hb':=hb;(try simp only[pkC]at hb');try(exfalso;omega)))|(refine hq_ ?_;clear hK K)|refine ca_ ?_ ?_|(refine cg_ ?_;first|refine cT_ hi ?_)|((with_reducible refine eF ?_);simp(disch:=first|decide|omega) only[↓pkS,pkW,pkA,undef,g_,h_,i_,dw,fG,lvD,fK,lcD,lvK,lcK,dh,dB,dA,ex,St.put,St.ev,kav,gdA,opI,dZ,fJ,dV,fF,fM,AV.toD,AC.toD,AV.nw,AC.nw,AC.one,c_,aA,aj,au,ay,bf,aV,if_true,if_false,f_,dW,D.one,D.ones,D.sz,D.szs,d_,e_,a_,b_,reduceIte,pkN,aK,aJ,aO,aF,aC,hd])|(first|(with_reducible rfl)|(with_reducible refine dD ?_;kernel_rfl)|exact aC _|exact aF _|exact el_ln _|exact el_tk _ _|exact el_td _ _ _|omega|(simp;done)|(simp;omega))|((with_reducible refine dI ?_);simp[aP,bP,bM,dL,AC.toD,aA,aj,au,ay,c_,aQ,aH,aU,aS,aW,aN,aY,aX,dQ,dR,aK,aJ,aO,aF,aC,hd];first|done|rfl))
    exact dS ⟨⟨_,rfl,rfl,trivial⟩,⟨_,rfl,rfl,trivial⟩⟩
end Go.Proofs.YtfengkmaphbofaaGreatDoor
