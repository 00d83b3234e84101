/-
  Texts joined: Num Fmt.
-/
import Derived.Test.YtfjmoicellpnhaaGreatJA
import Derived.Test.YtfjmoicellpnhaaGreatJE
import Derived.Test.YtfjmoicellpnhaaGreatJG
import Derived.Lib.AppendIntMem
import Derived.Lib.ItoaLen
import Derived.Test.YtfjmoicellpnhaaGreatJF
set_option maxHeartbeats 8000000
set_option linter.unusedSimpArgs false
set_option linter.unusedVariables false
namespace Go.Proofs.YtfjmoicellpnhaaGreat
open Go.RowKit
open Value renaming oneCell'→a_
open Bool renaming false_eq_true→b_
open List renaming flatMap_cons→c_,append_nil→d_,flatMap_nil→e_,length_append→j_,length_map→l_,length_nil→n_,cons_append→r_,length_cons→s_,nil_append→u_,replicate→v_,map_cons→w_,map_nil→y_
open Nat renaming reduceLeDiff→f_,reduceEqDiff→g_,reduceAdd→h_,reduceSub→i_,le_refl→q_
open Lib renaming decDigits→k_,decDigits_one→m_,itoa_length_le→p_,itoa→x_
open UInt8 renaming ofNat→o_
attribute [local irreducible] sw sd sn
def Jw(n:Int):ByteArray:=⟨(x_ n).toArray⟩
theorem TM{n:Int}(h0: -9223372036854775808≤n)(h1:n≤9223372036854775807):(Jw n).size≤21:=by
 have:=p_ n h0 h1;simpa[Jw,ByteArray.size]using this
theorem ahT{u:Nat}(h:¬u<10):k_ u=k_ (u / 10)++ [o_ (48+u % 10)]:=by
 rw[k_,dif_neg h]
theorem ahS{u:Nat}(h:u≤9223372036854775808):(k_ u).length≤21:=by
 by_cases h0:u=0
 ·subst h0;rw[m_ (by decide)];decide
 ·have:=p_ (-(u:Int)) (by omega) (by omega);rw[Lib.itoa_neg u (by omega)]at this;simp at this;omega
def qC(n0 n:Int)(o:List UInt8):Prop:=n.natAbs≤n0.natAbs∧(0≤n0→0≤n)∧(n0≤0→n≤0)∧(if n=0 then o=k_ n0.natAbs else k_ n.natAbs++o=k_ n0.natAbs)
theorem qC.start{n0:Int}(h:n0≠0):qC n0 n0 []:=⟨q_ _,id,id,by rw[if_neg h,d_]⟩
theorem qC.len{n0 n:Int}{o:List UInt8}(h:qC n0 n o)(hb:n0.natAbs≤9223372036854775808):o.length≤21:=by
 have hl:=ahS hb;obtain⟨_,_,_,h⟩:=h;split at h
 ·rw[h];exact hl
 ·rw[← h,j_]at hl;omega
theorem PW(n:Int):(n.tdiv 10).natAbs=n.natAbs / 10:=by rw[Int.natAbs_tdiv];rfl
theorem PV(n:Int):(0≤n→0≤n.tdiv 10)∧(n≤0→n.tdiv 10≤0):=by
 refine⟨fun h=>Int.tdiv_nonneg h (by decide),fun h=> ?_⟩;have:=Int.tdiv_nonneg (a:= -n) (b:=10) (by omega) (by decide);rw[Int.neg_tdiv]at this;omega
theorem qC.go{n0 n:Int}{o:List UInt8}(h:qC n0 n o)(hn:n≠0):qC n0 (n.tdiv 10) (o_ (48+n.natAbs % 10)::o):=by
 obtain⟨h1,h2,h3,h4⟩:=h;rw[if_neg hn]at h4;have ha:=PW n;have hsg:=PV n;refine⟨by omega,fun hp=> ?_,fun hp=> ?_, ?_⟩
 ·have:=h2 hp;omega
 ·have:=h3 hp;omega
 ·by_cases hs:n.natAbs<10
  ·have hz:n.tdiv 10=0:=by omega
   rw[if_pos hz,← h4,m_ hs,Nat.mod_eq_of_lt hs];rfl
  ·have hz:n.tdiv 10≠0:=by omega
   rw[if_neg hz,← h4,ahT hs,ha];simp
theorem qC.fin{n0:Int}{o:List UInt8}(h:qC n0 0 o):o=k_ n0.natAbs:=by
 obtain⟨_,_,_,h⟩:=h;simpa using h
theorem TL{n:Int}(h:0≤n):Jw n=⟨(k_ n.natAbs).toArray⟩:=by
 unfold Jw x_;rw[if_neg (by omega)];have e:n.toNat=n.natAbs:=by omega
 rw[e]
theorem adH{n:Int}(h:n<0):Jw n=⟨(45::k_ n.natAbs).toArray⟩:=by
 unfold Jw x_;rw[if_pos h]
theorem aeD(a b:List UInt8):(⟨a.toArray⟩:ByteArray)++⟨b.toArray⟩=⟨(a++b).toArray⟩:=by
 apply ByteArray.ext;simp
theorem Xe{d:Int}(h0:0≤d)(h1:d≤255):IntKind.u8.wrap d=d:=by
 simp[IntKind.wrap,IntKind.signed,IntKind.bits];omega
theorem ae4{α:Type}{x y:α}:(if(10:Int)=0 then x else y)=y:=if_neg (by decide)
def E5 :IC:=(zd_ [zz_ 2 (.mov (.k (.string ⟨#[]⟩)))] (.seq (zd_ [zw_ 6 0,zm_ 7 .eql 6 0] (.cond (.t 7) (zd_ [zz_ 2 (.mov (.k (.string ⟨#[48]⟩)))] .ret) .skip)) (zd_ [zw_ 8 0,zm_ 9 .lss 8 0,zw_ 3 9] (zd_ [zz_ 4 (.mov (.k (.string ⟨#[]⟩)))] (.seq (.block 0 (.loop (.seq (zd_ [zw_ 10 0,zm_ 11 .neq 10 0] (.cond (.t 11) .skip (.exit 0))) (.block 1 (zd_ [zw_ 12 0,zm_ 13 .rem 12 10,zw_ 5 13] (.seq (zd_ [zw_ 14 5,zm_ 15 .lss 14 0] (.cond (.t 15) (.reg false [zw_ 16 5,zz_ 17 (.bin .sub (.k (.int .i64 0)) (.t 16)),zw_ 5 17]) .skip)) (zd_ [zw_ 18 5,zz_ 19 (.bin .add (.k (.int .i64 48)) (.t 18)),zz_ 20 (.cvi .u8 (.t 19)),zz_ 21 (.brow true 5 1 1 false [(.t 20)]),zz_ 22 (.cvs (.t 21)),zw_ 23 4,zl_ 24 .add 22 23,zw_ 4 24] (.reg false [zw_ 25 0,zm_ 26 .quo 25 10,zw_ 0 26])))))))) (.seq (zd_ [zw_ 27 3] (.cond (.t 27) (zd_ [zw_ 28 4,zz_ 29 (.bin .add (.k (.string ⟨#[45]⟩)) (.t 28)),zw_ 2 29] .ret) .skip)) (zd_ [zw_ 30 4,zw_ 2 30] .ret)))))))
theorem Jf :ak Tryz.prog (Tryz.f126.body.getD .skip)=some E5:=by kernel_rfl
theorem ug{a:UInt8}{o:List UInt8}(h:o.length≤21):((((⟨#[a]⟩:ByteArray).size+(⟨o.toArray⟩:ByteArray).size:Nat):Int) > IntKind.i64.max)=False:=by
 have e1:(⟨o.toArray⟩:ByteArray).size=o.length:=by simp[ByteArray.size]
 have e2:(⟨#[a]⟩:ByteArray).size=1:=rfl;have e3:IntKind.i64.max=9223372036854775807:=by decide
 rw[e1,e2,e3];simp;omega
theorem GI{a:UInt8}{o:List UInt8}(h:o.length≤21):(9223372036854775807<((((⟨#[a]⟩:ByteArray).size:Nat):Int)+(((⟨o.toArray⟩:ByteArray).size:Nat):Int)))=False:=by
 have e1:(⟨o.toArray⟩:ByteArray).size=o.length:=by simp[ByteArray.size]
 have e2:(⟨#[a]⟩:ByteArray).size=1:=rfl;rw[e1,e2];simp;omega
theorem oD{n:Int}(h0: -9223372036854775808≤n)(h1:n≤9223372036854775807):aI Tryz.prog 126 [li n] (.c false [.raw (.string (Jw n))]):=by
 refine aY (fn:=Tryz.f126) (t:=2) (hc:=Jf) (h:= ?_);unfold E5;refine zb_ ?_;change AWP _ _ _ (st0 31 _);simp only[undef,stS,st0,stN,D.av,D.avN,dD,bf,dG,dF,dK,bV,bP,bM,w_,y_,v_,r_,u_,s_,n_,h_,i_];by_cases hz:n=0
 ·subst hz;have hz':((0:Int)==0)=true:=rfl
  repeat' (first|(with_reducible first|refine oP ?_|refine jL ?_|refine lD ?_|refine lF ?_|refine oQ ?_|refine yC ?_|refine kS ?_|refine nP ?_|refine gY ?_|refine jG ?_|refine lq ?_|refine jB ?_|refine kV ?_|refine iM ?_|refine jA ?_)|((with_reducible refine jF ?_ ?_);rfl)|((with_reducible refine jI ?_ ?_);rfl)|((with_reducible refine jK ?_ ?_);rfl)|(with_reducible (refine jJ rfl ?_ ?_);all_goals(intro hb;have hb':=hb;(try simp only[pkC]at hb');try(exfalso;omega)))|(refine rg_ ?_;intro K hK)|(refine hq_ ?_;clear hK K)|refine ca_ ?_ ?_|((with_reducible refine jg ?_);simp(disch:=first|decide|omega) only[↓pkS,pkW,pkA,undef,c_,e_,d_,kJ,rO,lvD,wZ,lcD,lvK,lcK,fH,fA,jq,ex,St.put,St.ev,kav,gdA,opI,fQ,vJ,jQ,qO,xg,AV.toD,AC.toD,AV.nw,AC.nw,AC.one,a_,dR,bJ,dI,dQ,je,iE,if_true,if_false,b_,kD,D.one,D.ones,D.sz,D.szs,h_,i_,f_,g_,reduceIte,pkN,bP,bM,hz'])|(first|(with_reducible rfl)|(with_reducible refine mO ?_;kernel_rfl)|exact bW _|exact eP _|exact aO _|exact vC _ _|exact wV _ _ _|omega|(simp;done)|(simp;omega))|((with_reducible refine oU ?_);simp[bD,oW,jM,mZ,AC.toD,dR,bJ,dI,dQ,a_,kK,gI,kM,kL,dD,bf,dG,dF,zq,zu,bP,bM,hz'];first|done|rfl))
  exact aS ⟨_,rfl,by rw[TL (by decide)];rw[show k_ (Int.natAbs 0)= [48] from by rw[m_ (by decide)];rfl];rfl,trivial⟩
 have hz':(n==0)=false:=by simp[hz]
 repeat' (first|(with_reducible first|refine oP ?_|refine jL ?_|refine lD ?_|refine lF ?_|refine oQ ?_|refine yC ?_|refine kS ?_|refine nP ?_|refine gY ?_|refine jG ?_|refine lq ?_|refine jB ?_|refine kV ?_|refine iM ?_|refine jA ?_)|((with_reducible refine jF ?_ ?_);rfl)|((with_reducible refine jI ?_ ?_);rfl)|((with_reducible refine jK ?_ ?_);rfl)|(with_reducible (refine jJ rfl ?_ ?_);all_goals(intro hb;have hb':=hb;(try simp only[pkC]at hb');try(exfalso;omega)))|(refine rg_ ?_;intro K hK)|(refine hq_ ?_;clear hK K)|refine ca_ ?_ ?_|((with_reducible refine jg ?_);simp(disch:=first|decide|omega) only[↓pkS,pkW,pkA,undef,c_,e_,d_,kJ,rO,lvD,wZ,lcD,lvK,lcK,fH,fA,jq,ex,St.put,St.ev,kav,gdA,opI,fQ,vJ,jQ,qO,xg,AV.toD,AC.toD,AV.nw,AC.nw,AC.one,a_,dR,bJ,dI,dQ,je,iE,if_true,if_false,b_,kD,D.one,D.ones,D.sz,D.szs,h_,i_,f_,g_,reduceIte,pkN,bP,bM,hz'])|(first|(with_reducible rfl)|(with_reducible refine mO ?_;kernel_rfl)|exact bW _|exact eP _|exact aO _|exact vC _ _|exact wV _ _ _|omega|(simp;done)|(simp;omega))|((with_reducible refine oU ?_);simp[bD,oW,jM,mZ,AC.toD,dR,bJ,dI,dQ,a_,kK,gI,kM,kL,dD,bf,dG,dF,zq,zu,bP,bM,hz'];first|done|rfl))
 refine aQ (X:=Int×List UInt8) (fun q=> [.v (.c false [.raw (.int .i64 q.1)]),.d,.d,.v (.c false [.raw (.bool (decide (n<0)))]),.v (.c false [.raw (.string ⟨q.2.toArray⟩)])]) (fun q=> []) (fun q bs=> []) (fun q=>qC n q.1 q.2) (fun q=>q.1.natAbs) (n,[]) (qC.start hz) ?_ ?_
 ·simp[aG,aU,aC,aF,AV.fits,AC.fits,FB,aB]
 rintro⟨m,o⟩ hv;simp only[FB,aB];have hv:qC n m o:=hv;have hab:=hv.1;by_cases hm:m=0
 ·subst hm;have hne:((0:Int) !=0)=false:=rfl;have ho:=hv.fin;have hlen:=hv.len (by omega);by_cases hb:n<0
  ·have hb':decide (n<0)=true:=decide_eq_true hb
   repeat' (first|(with_reducible first|refine oP ?_|refine jL ?_|refine lD ?_|refine lF ?_|refine oQ ?_|refine yC ?_|refine kS ?_|refine nP ?_|refine gY ?_|refine jG ?_|refine lq ?_|refine jB ?_|refine kV ?_|refine iM ?_|refine jA ?_)|((with_reducible refine jF ?_ ?_);rfl)|((with_reducible refine jI ?_ ?_);rfl)|((with_reducible refine jK ?_ ?_);rfl)|(with_reducible (refine jJ rfl ?_ ?_);all_goals(intro hb;have hb':=hb;(try simp only[pkC]at hb');try(exfalso;omega)))|(refine rg_ ?_;intro K hK)|(refine hq_ ?_;clear hK K)|refine ca_ ?_ ?_|((with_reducible refine jg ?_);simp(disch:=first|decide|omega) only[↓pkS,pkW,pkA,undef,c_,e_,d_,kJ,rO,lvD,wZ,lcD,lvK,lcK,fH,fA,jq,ex,St.put,St.ev,kav,gdA,opI,fQ,vJ,jQ,qO,xg,AV.toD,AC.toD,AV.nw,AC.nw,AC.one,a_,dR,bJ,dI,dQ,je,iE,if_true,if_false,b_,kD,D.one,D.ones,D.sz,D.szs,h_,i_,f_,g_,reduceIte,pkN,bP,bM,hne,hb',ug hlen,GI hlen])|(first|(with_reducible rfl)|(with_reducible refine mO ?_;kernel_rfl)|exact bW _|exact eP _|exact aO _|exact vC _ _|exact wV _ _ _|omega|(simp;done)|(simp;omega))|((with_reducible refine oU ?_);simp[bD,oW,jM,mZ,AC.toD,dR,bJ,dI,dQ,a_,kK,gI,kM,kL,dD,bf,dG,dF,zq,zu,bP,bM,hne,hb',ug hlen,GI hlen];first|done|rfl))
   exact aS ⟨_,rfl,by rw[adH hb,← ho];rfl,trivial⟩
  ·have hb':decide (n<0)=false:=decide_eq_false hb
   repeat' (first|(with_reducible first|refine oP ?_|refine jL ?_|refine lD ?_|refine lF ?_|refine oQ ?_|refine yC ?_|refine kS ?_|refine nP ?_|refine gY ?_|refine jG ?_|refine lq ?_|refine jB ?_|refine kV ?_|refine iM ?_|refine jA ?_)|((with_reducible refine jF ?_ ?_);rfl)|((with_reducible refine jI ?_ ?_);rfl)|((with_reducible refine jK ?_ ?_);rfl)|(with_reducible (refine jJ rfl ?_ ?_);all_goals(intro hb;have hb':=hb;(try simp only[pkC]at hb');try(exfalso;omega)))|(refine rg_ ?_;intro K hK)|(refine hq_ ?_;clear hK K)|refine ca_ ?_ ?_|((with_reducible refine jg ?_);simp(disch:=first|decide|omega) only[↓pkS,pkW,pkA,undef,c_,e_,d_,kJ,rO,lvD,wZ,lcD,lvK,lcK,fH,fA,jq,ex,St.put,St.ev,kav,gdA,opI,fQ,vJ,jQ,qO,xg,AV.toD,AC.toD,AV.nw,AC.nw,AC.one,a_,dR,bJ,dI,dQ,je,iE,if_true,if_false,b_,kD,D.one,D.ones,D.sz,D.szs,h_,i_,f_,g_,reduceIte,pkN,bP,bM,hne,hb',ug hlen,GI hlen])|(first|(with_reducible rfl)|(with_reducible refine mO ?_;kernel_rfl)|exact bW _|exact eP _|exact aO _|exact vC _ _|exact wV _ _ _|omega|(simp;done)|(simp;omega))|((with_reducible refine oU ?_);simp[bD,oW,jM,mZ,AC.toD,dR,bJ,dI,dQ,a_,kK,gI,kM,kL,dD,bf,dG,dF,zq,zu,bP,bM,hne,hb',ug hlen,GI hlen];first|done|rfl))
   exact aS ⟨_,rfl,by rw[TL (by omega),← ho];rfl,trivial⟩
 ·have hneq:(m !=0)=true:=by simp[hm]
  have hd0:(n.natAbs:Int)=0∨True:=Or.inr trivial;have hdv:=PW m;have hsg:=PV m;have hmo:m.tmod 10=m - 10*m.tdiv 10:=by have:=Int.tmod_add_mul_tdiv m 10;omega
  have hw1:IntKind.i64.wrap (m.tdiv 10)=m.tdiv 10:=jf (by omega) (by omega);have hlen:=hv.len (by omega);have hg:=hv.go hm;by_cases hs:m.tmod 10<0
  ·have hs':decide (m.tmod 10<0)=true:=decide_eq_true hs;have hw2:IntKind.i64.wrap (0 - m.tmod 10)=((m.natAbs % 10:Nat):Int):=by rw[jf (by omega) (by omega)];omega
   have hw3:IntKind.i64.wrap (48+((m.natAbs % 10:Nat):Int))=48+((m.natAbs % 10:Nat):Int):=jf (by omega) (by omega);have hw4:IntKind.u8.wrap (48+((m.natAbs % 10:Nat):Int))=48+((m.natAbs % 10:Nat):Int):=Xe (by omega) (by omega);have hw5:(48+((m.natAbs % 10:Nat):Int)).toNat=48+m.natAbs % 10:=by omega
   repeat' (first|(with_reducible first|refine oP ?_|refine jL ?_|refine lD ?_|refine lF ?_|refine oQ ?_|refine yC ?_|refine kS ?_|refine nP ?_|refine gY ?_|refine jG ?_|refine lq ?_|refine jB ?_|refine kV ?_|refine iM ?_|refine jA ?_)|((with_reducible refine jF ?_ ?_);rfl)|((with_reducible refine jI ?_ ?_);rfl)|((with_reducible refine jK ?_ ?_);rfl)|(with_reducible (refine jJ rfl ?_ ?_);all_goals(intro hb;have hb':=hb;(try simp only[pkC]at hb');try(exfalso;omega)))|(refine rg_ ?_;intro K hK)|(refine hq_ ?_;clear hK K)|refine ca_ ?_ ?_|((with_reducible refine jg ?_);simp(disch:=first|decide|omega) only[↓pkS,pkW,pkA,undef,c_,e_,d_,kJ,rO,lvD,wZ,lcD,lvK,lcK,fH,fA,jq,ex,St.put,St.ev,kav,gdA,opI,fQ,vJ,jQ,qO,xg,AV.toD,AC.toD,AV.nw,AC.nw,AC.one,a_,dR,bJ,dI,dQ,je,iE,if_true,if_false,b_,kD,D.one,D.ones,D.sz,D.szs,h_,i_,f_,g_,reduceIte,pkN,bP,bM,ae4,hneq,hs',hw1,hw2,hw3,hw4,hw5,jU,ug hlen])|(first|(with_reducible rfl)|(with_reducible refine mO ?_;kernel_rfl)|exact bW _|exact eP _|exact aO _|exact vC _ _|exact wV _ _ _|omega|(simp;done)|(simp;omega))|((with_reducible refine oU ?_);simp[bD,oW,jM,mZ,AC.toD,dR,bJ,dI,dQ,a_,kK,gI,kM,kL,dD,bf,dG,dF,zq,zu,bP,bM,ae4,hneq,hs',hw1,hw2,hw3,hw4,hw5,jU,ug hlen];first|done|rfl))
   refine aP (m.tdiv 10,o_ (48+m.natAbs % 10)::o) ?_ hg (show(m.tdiv 10).natAbs<m.natAbs by omega);simp[aG,aU,aC,aF,AV.fits,AC.fits,FB,aB,aeD]
  ·have hs':decide (m.tmod 10<0)=false:=decide_eq_false hs;have hw2:m.tmod 10=((m.natAbs % 10:Nat):Int):=by omega
   have hw3:IntKind.i64.wrap (48+((m.natAbs % 10:Nat):Int))=48+((m.natAbs % 10:Nat):Int):=jf (by omega) (by omega);have hw4:IntKind.u8.wrap (48+((m.natAbs % 10:Nat):Int))=48+((m.natAbs % 10:Nat):Int):=Xe (by omega) (by omega);have hw5:(48+((m.natAbs % 10:Nat):Int)).toNat=48+m.natAbs % 10:=by omega
   repeat' (first|(with_reducible first|refine oP ?_|refine jL ?_|refine lD ?_|refine lF ?_|refine oQ ?_|refine yC ?_|refine kS ?_|refine nP ?_|refine gY ?_|refine jG ?_|refine lq ?_|refine jB ?_|refine kV ?_|refine iM ?_|refine jA ?_)|((with_reducible refine jF ?_ ?_);rfl)|((with_reducible refine jI ?_ ?_);rfl)|((with_reducible refine jK ?_ ?_);rfl)|(with_reducible (refine jJ rfl ?_ ?_);all_goals(intro hb;have hb':=hb;(try simp only[pkC]at hb');try(exfalso;omega)))|(refine rg_ ?_;intro K hK)|(refine hq_ ?_;clear hK K)|refine ca_ ?_ ?_|((with_reducible refine jg ?_);simp(disch:=first|decide|omega) only[↓pkS,pkW,pkA,undef,c_,e_,d_,kJ,rO,lvD,wZ,lcD,lvK,lcK,fH,fA,jq,ex,St.put,St.ev,kav,gdA,opI,fQ,vJ,jQ,qO,xg,AV.toD,AC.toD,AV.nw,AC.nw,AC.one,a_,dR,bJ,dI,dQ,je,iE,if_true,if_false,b_,kD,D.one,D.ones,D.sz,D.szs,h_,i_,f_,g_,reduceIte,pkN,bP,bM,ae4,hneq,hs',hw1,hw2,hw3,hw4,hw5,jU,ug hlen])|(first|(with_reducible rfl)|(with_reducible refine mO ?_;kernel_rfl)|exact bW _|exact eP _|exact aO _|exact vC _ _|exact wV _ _ _|omega|(simp;done)|(simp;omega))|((with_reducible refine oU ?_);simp[bD,oW,jM,mZ,AC.toD,dR,bJ,dI,dQ,a_,kK,gI,kM,kL,dD,bf,dG,dF,zq,zu,bP,bM,ae4,hneq,hs',hw1,hw2,hw3,hw4,hw5,jU,ug hlen];first|done|rfl))
   refine aP (m.tdiv 10,o_ (48+m.natAbs % 10)::o) ?_ hg (show(m.tdiv 10).natAbs<m.natAbs by omega);simp[aG,aU,aC,aF,AV.fits,AC.fits,FB,aB,aeD]
theorem nH{α:Type}{f:α→D}{l:List α}{k:Nat}(h:k<l.length):(l.map f)[k]? =some (f l[k]):=by rw[List.getElem?_map,List.getElem?_eq_getElem h];rfl
def tJ(l:List ByteArray)(b:ByteArray):Nat→List UInt8
 |0=> []
 |k+1=>tJ l b k++((if 0<k then b.data.toList else [])++(l.getD k ⟨#[]⟩).data.toList)
def Rf(l:List ByteArray)(b:ByteArray):ByteArray:=⟨(tJ l b l.length).toArray⟩
theorem Q9(l:List ByteArray)(b:ByteArray):∀{k n:Nat},k≤n→(tJ l b k).length≤(tJ l b n).length
 | k,0,h=>by
   obtain rfl:k=0:=by omega
   exact q_ _
 | k,n+1,h=>by
   by_cases hk:k=n+1
   ·subst hk;exact q_ _
   ·have:=Q9 l b (k:=k) (n:=n) (by omega);simp only[tJ,j_];omega
theorem Iy{l:List ByteArray}{b:ByteArray}{k:Nat}(h:k<l.length):tJ l b (k+1)=tJ l b k++((if 0<k then b.data.toList else [])++l[k].data.toList):=by
 simp[tJ,List.getD_eq_getElem?_getD,h]
theorem Zi(s:ByteArray):s.data.toList.length=s.size:=by simp
def CQ :IC:=(zd_ [zz_ 4 (.mov (.k (.string ⟨#[]⟩)))] (zd_ [zz_ 7 (.brow true 5 1 0 false []),zw_ 5 7] (.seq (zd_ [zk_ 6 0] (.block 0 (.loop (.seq (zd_ [zw_ 8 6,zw_ 9 0,zf_ 10 false 9,zl_ 11 .lss 8 10] (.cond (.t 11) .skip (.exit 0))) (.seq (.block 1 (.seq (zd_ [zw_ 14 6,zm_ 15 .gtr 14 0] (.cond (.t 15) (.reg false [zw_ 16 5,zw_ 17 1,zz_ 18 (.apps 5 (.t 16) (.t 17)),zw_ 5 18]) .skip)) (.reg false [zw_ 19 5,zw_ 20 0,zw_ 21 6,ze_ 22 1 20 21,zs_ 23 1 22,zz_ 24 (.apps 5 (.t 19) (.t 23)),zw_ 5 24]))) (.reg false [zw_ 12 6,zm_ 13 .add 12 1,zw_ 6 13])))))) (zd_ [zw_ 25 5,zz_ 26 (.cvs (.t 25)),zw_ 4 26] .ret))))
theorem F6 :ak Tryz.prog (Tryz.f130.body.getD .skip)=some CQ:=by kernel_rfl
theorem BZ(l:List ByteArray)(b:ByteArray)(hb:(tJ l b l.length).length≤1073741824)(hn:l.length≤4194304):aI Tryz.prog 130 [.sl (l.map ls),ls b] (.c false [.raw (.string (Rf l b))]):=by
 refine aY (fn:=Tryz.f130) (t:=4) (hc:=F6) (h:= ?_);unfold CQ;refine zb_ ?_;change AWP _ _ _ (st0 27 _);simp only[undef,stS,st0,stN,D.av,D.avN,dD,bf,dG,dF,dK,bV,bP,bM,GCell.aV,GCell.aK,GCell.aW,w_,y_,v_,r_,u_,s_,n_,h_,i_]
 repeat' (first|(with_reducible first|refine oP ?_|refine jL ?_|refine lD ?_|refine lF ?_|refine oQ ?_|refine yC ?_|refine kS ?_|refine nP ?_|refine gY ?_|refine jG ?_|refine lq ?_|refine jB ?_|refine kV ?_|refine iM ?_|refine jA ?_)|((with_reducible refine jF ?_ ?_);rfl)|((with_reducible refine jI ?_ ?_);rfl)|((with_reducible refine jK ?_ ?_);rfl)|(with_reducible (refine jJ rfl ?_ ?_);all_goals(intro hb;have hb':=hb;(try simp only[pkC]at hb');try(exfalso;omega)))|(refine rg_ ?_;intro K hK)|(refine hq_ ?_;clear hK K)|refine ca_ ?_ ?_|((with_reducible refine jg ?_);simp(disch:=first|decide|omega) only[↓pkS,pkW,pkA,undef,c_,e_,d_,kJ,rO,lvD,wZ,lcD,lvK,lcK,fH,fA,jq,ex,St.put,St.ev,kav,gdA,opI,fQ,vJ,jQ,qO,xg,AV.toD,AC.toD,AV.nw,AC.nw,AC.one,a_,dR,bJ,dI,dQ,je,iE,if_true,if_false,b_,kD,D.one,D.ones,D.sz,D.szs,h_,i_,f_,g_,reduceIte,pkN,bP,bM,dK,GCell.aV,GCell.aK,GCell.aW,nH])|(first|(with_reducible rfl)|(with_reducible refine mO ?_;kernel_rfl)|exact bW _|exact eP _|exact aO _|exact vC _ _|exact wV _ _ _|omega|(simp;done)|(simp;omega))|((with_reducible refine oU ?_);simp[bD,oW,jM,mZ,AC.toD,dR,bJ,dI,dQ,a_,kK,gI,kM,kL,dD,bf,dG,dF,zq,zu,bP,bM,dK,GCell.aV,GCell.aK,GCell.aW,nH];first|done|rfl))
 refine aQ (X:=Nat×Nat) (fun q=> [.k,.k,.d,.d,.d,.v (.c false [.own 0 q.2]),.v (.c false [.raw (.int .i64 (q.1:Nat))])]) (fun q=> [⟨(tJ l b q.1).map lu8,5,1,q.2,true⟩]) (fun q bs=> []) (fun q=>q.1≤l.length) (fun q=>l.length - q.1) (0,0) (Nat.zero_le _) ?_ ?_
 ·simp[aG,aU,aC,aF,AV.fits,AC.fits,FB,aB,tJ]
 rintro⟨k,v⟩ hk;have hk:k≤l.length:=hk;simp only[FB,aB];by_cases hlt:k<l.length
 ·have hm:=Q9 l b (show k+1≤l.length by omega);have hs:=Iy (b:=b) hlt;have hsl:=congrArg List.length hs;by_cases h0:0<k
  ·have h0':decide ((k:Int) > 0)=true:=decide_eq_true (by omega);rw[if_pos h0]at hs hsl;simp only[j_,Zi]at hsl
   repeat' (first|(with_reducible first|refine oP ?_|refine jL ?_|refine lD ?_|refine lF ?_|refine oQ ?_|refine yC ?_|refine kS ?_|refine nP ?_|refine gY ?_|refine jG ?_|refine lq ?_|refine jB ?_|refine kV ?_|refine iM ?_|refine jA ?_)|((with_reducible refine jF ?_ ?_);rfl)|((with_reducible refine jI ?_ ?_);rfl)|((with_reducible refine jK ?_ ?_);rfl)|(with_reducible (refine jJ rfl ?_ ?_);all_goals(intro hb;have hb':=hb;(try simp only[pkC]at hb');try(exfalso;omega)))|(refine rg_ ?_;intro K hK)|(refine hq_ ?_;clear hK K)|refine ca_ ?_ ?_|((with_reducible refine jg ?_);simp(disch:=first|decide|omega) only[↓pkS,pkW,pkA,undef,c_,e_,d_,kJ,rO,lvD,wZ,lcD,lvK,lcK,fH,fA,jq,ex,St.put,St.ev,kav,gdA,opI,fQ,vJ,jQ,qO,xg,AV.toD,AC.toD,AV.nw,AC.nw,AC.one,a_,dR,bJ,dI,dQ,je,iE,if_true,if_false,b_,kD,D.one,D.ones,D.sz,D.szs,h_,i_,f_,g_,reduceIte,pkN,bP,bM,dK,GCell.aV,GCell.aK,GCell.aW,nH,h0',xA,j_,l_])|(first|(with_reducible rfl)|(with_reducible refine mO ?_;kernel_rfl)|exact bW _|exact eP _|exact aO _|exact vC _ _|exact wV _ _ _|omega|(simp;done)|(simp;omega))|((with_reducible refine oU ?_);simp[bD,oW,jM,mZ,AC.toD,dR,bJ,dI,dQ,a_,kK,gI,kM,kL,dD,bf,dG,dF,zq,zu,bP,bM,dK,GCell.aV,GCell.aK,GCell.aW,nH,h0',xA,j_,l_];first|done|rfl))
   refine aP (k+1,v+2) ?_ (show k+1≤l.length by omega) (show l.length - (k+1)<l.length - k by omega);simp[aG,aU,aC,aF,AV.fits,AC.fits,FB,aB,hs,Hl]
  ·have h0':decide ((k:Int) > 0)=false:=decide_eq_false (by omega);rw[if_neg h0]at hs hsl;simp only[j_,Zi,n_]at hsl
   repeat' (first|(with_reducible first|refine oP ?_|refine jL ?_|refine lD ?_|refine lF ?_|refine oQ ?_|refine yC ?_|refine kS ?_|refine nP ?_|refine gY ?_|refine jG ?_|refine lq ?_|refine jB ?_|refine kV ?_|refine iM ?_|refine jA ?_)|((with_reducible refine jF ?_ ?_);rfl)|((with_reducible refine jI ?_ ?_);rfl)|((with_reducible refine jK ?_ ?_);rfl)|(with_reducible (refine jJ rfl ?_ ?_);all_goals(intro hb;have hb':=hb;(try simp only[pkC]at hb');try(exfalso;omega)))|(refine rg_ ?_;intro K hK)|(refine hq_ ?_;clear hK K)|refine ca_ ?_ ?_|((with_reducible refine jg ?_);simp(disch:=first|decide|omega) only[↓pkS,pkW,pkA,undef,c_,e_,d_,kJ,rO,lvD,wZ,lcD,lvK,lcK,fH,fA,jq,ex,St.put,St.ev,kav,gdA,opI,fQ,vJ,jQ,qO,xg,AV.toD,AC.toD,AV.nw,AC.nw,AC.one,a_,dR,bJ,dI,dQ,je,iE,if_true,if_false,b_,kD,D.one,D.ones,D.sz,D.szs,h_,i_,f_,g_,reduceIte,pkN,bP,bM,dK,GCell.aV,GCell.aK,GCell.aW,nH,h0',xA,j_,l_])|(first|(with_reducible rfl)|(with_reducible refine mO ?_;kernel_rfl)|exact bW _|exact eP _|exact aO _|exact vC _ _|exact wV _ _ _|omega|(simp;done)|(simp;omega))|((with_reducible refine oU ?_);simp[bD,oW,jM,mZ,AC.toD,dR,bJ,dI,dQ,a_,kK,gI,kM,kL,dD,bf,dG,dF,zq,zu,bP,bM,dK,GCell.aV,GCell.aK,GCell.aW,nH,h0',xA,j_,l_];first|done|rfl))
   refine aP (k+1,v+1) ?_ (show k+1≤l.length by omega) (show l.length - (k+1)<l.length - k by omega);simp[aG,aU,aC,aF,AV.fits,AC.fits,FB,aB,hs,Hl]
 obtain rfl:k=l.length:=by omega
 repeat' (first|(with_reducible first|refine oP ?_|refine jL ?_|refine lD ?_|refine lF ?_|refine oQ ?_|refine yC ?_|refine kS ?_|refine nP ?_|refine gY ?_|refine jG ?_|refine lq ?_|refine jB ?_|refine kV ?_|refine iM ?_|refine jA ?_)|((with_reducible refine jF ?_ ?_);rfl)|((with_reducible refine jI ?_ ?_);rfl)|((with_reducible refine jK ?_ ?_);rfl)|(with_reducible (refine jJ rfl ?_ ?_);all_goals(intro hb;have hb':=hb;(try simp only[pkC]at hb');try(exfalso;omega)))|(refine rg_ ?_;intro K hK)|(refine hq_ ?_;clear hK K)|refine ca_ ?_ ?_|((with_reducible refine jg ?_);simp(disch:=first|decide|omega) only[↓pkS,pkW,pkA,undef,c_,e_,d_,kJ,rO,lvD,wZ,lcD,lvK,lcK,fH,fA,jq,ex,St.put,St.ev,kav,gdA,opI,fQ,vJ,jQ,qO,xg,AV.toD,AC.toD,AV.nw,AC.nw,AC.one,a_,dR,bJ,dI,dQ,je,iE,if_true,if_false,b_,kD,D.one,D.ones,D.sz,D.szs,h_,i_,f_,g_,reduceIte,pkN,bP,bM,dK,GCell.aV,GCell.aK,GCell.aW,nH,Bg])|(first|(with_reducible rfl)|(with_reducible refine mO ?_;kernel_rfl)|exact bW _|exact eP _|exact aO _|exact vC _ _|exact wV _ _ _|omega|(simp;done)|(simp;omega))|((with_reducible refine oU ?_);simp[bD,oW,jM,mZ,AC.toD,dR,bJ,dI,dQ,a_,kK,gI,kM,kL,dD,bf,dG,dF,zq,zu,bP,bM,dK,GCell.aV,GCell.aK,GCell.aW,nH,Bg];first|done|rfl))
 exact aS ⟨_,rfl,rfl,trivial⟩
end Go.Proofs.YtfjmoicellpnhaaGreat
