/-
  Texts joined: RunB RunS RunI Needs Iso IsoC.
-/
import Derived.Test.YtfjmoicellpnhaaGreatJZ
set_option maxHeartbeats 16000000
set_option linter.unusedSimpArgs false
set_option linter.unusedVariables false
namespace Go.Proofs.YtfjmoicellpnhaaGreat
open Go.RowKit
section
open List renaming length_cons→a_,length_nil→b_,take_succ_eq_append_getElem→c_,cons_append→d_,nil_append→e_,replicate→f_,map_cons→g_,map_nil→j_,length_append→m_,length_take→n_,length_filter_le→o_,length_map→p_,getElem?_eq_getElem→r_,take_length→s_,filter_append→u_,filter_cons→w_,map_take→z_
open Nat renaming reduceAdd→h_,reduceSub→i_,zero_le→k_,le_trans→t_,lt_or_ge→v_,le_refl→A_
open Bool renaming and_eq_true→l_,eq_false_iff→q_,eq_iff_iff→x_,true_and→y_
def kOk(x:GPart):Bool:=x.kind==2 || x.kind==3
noncomputable def bI(l:List GPart)(z:Int):Bool:=decide (0≤z) && (match l[z.toNat]? with|some x=>kOk x && !sK l z && !onC l z|none=>false)
theorem Gs(l:List GPart){z:Int}(h0:0≤z)(h:z.toNat<l.length):bI l z=(kOk l[z.toNat] && !sK l z && !onC l z):=by
 unfold bI;rw[r_ h];simp[h0]
theorem Hu(l:List GPart){z:Int}(h:¬(0≤z∧z.toNat<l.length)):bI l z=false:=by
 unfold bI;by_cases h0:0≤z
 ·rw[List.getElem?_eq_none (by omega)];simp
 ·simp[h0]
end
section
open List renaming length_cons→a_,length_nil→b_,take_succ_eq_append_getElem→c_,cons_append→d_,nil_append→e_,replicate→f_,map_cons→g_,map_nil→j_,length_append→m_,length_take→n_,length_filter_le→o_,length_map→p_,getElem?_eq_getElem→r_,take_length→s_,filter_append→u_,filter_cons→w_,map_take→z_
open Nat renaming reduceAdd→h_,reduceSub→i_,zero_le→k_,le_trans→t_,lt_or_ge→v_,le_refl→A_
open Bool renaming and_eq_true→l_,eq_false_iff→q_,eq_iff_iff→x_,true_and→y_
attribute [local irreducible] sw sd sn
def qo :IC:=(zd_ [zj_ 4 false] (.seq (zd_ [zw_ 5 1,zw_ 6 0,zf_ 7 false 6,zm_ 8 .sub 7 1,zz_ 9 (.call 60 [(.t 5),(.k (.int .i64 0)),(.t 8)]),zz_ 10 (.not (.t 9)),zw_ 11 10,zu_ 12 11 0,zu_ 13 11 1,zx_ 14 11 (.call 101 [(.t 12),(.t 13)]),zg_ 15 11 true 14,zw_ 16 15,zu_ 17 16 0,zu_ 18 16 1,zx_ 19 16 (.call 91 [(.t 17),(.t 18)]),zg_ 20 16 true 19] (.cond (.t 20) (zd_ [zj_ 4 false] .ret) .skip)) (zd_ [zw_ 21 0,zw_ 22 1,ze_ 23 14 21 22,zt_ 24 0 23,zs_ 25 1 24,zm_ 26 .eql 25 2,zw_ 27 26,zu_ 28 27 0,zu_ 29 27 1,zx_ 30 27 (.iad 14 (.t 28) (.t 29)),zx_ 31 27 (.fad 0 (.t 30)),zx_ 32 27 (.load 1 false (.t 31)),zx_ 33 27 (.bin .eql (.t 32) (.k (.int .i64 3))),zg_ 34 27 true 33,zw_ 4 34] .ret)))
theorem oq :ak Tryz.prog (Tryz.f84.body.getD .skip)=some qo:=by kernel_rfl
theorem Aq(l:List GPart)(z:Int)(hw:l.length+D.wts (l.map GPart.toD)≤1048576)(h0:0≤z)(hlt:z.toNat<l.length)(hd:sK l z=true):aI Tryz.prog 84 [.sl (l.map GPart.toD),li z] (.c false [.raw (.bool (false))]):=by
 have hn:l.length≤1048576:=by omega
 refine aY (fn:=Tryz.f84) (t:=4) (hc:=oq) (h:= ?_);unfold qo;refine zb_ ?_;change AWP _ _ _ (st0 35 _);simp only[undef,stS,st0,stN,D.av,D.avN,dD,bf,dG,dF,dK,bV,bP,bM,aJ,aO,au,GPart.aV,GPart.aK,GPart.aW,GPart.el,g_,j_,f_,d_,e_,a_,b_,h_,i_];have hinB:inB z 0 ((l.length:Int) - 1)=true:=by simp[inB];omega
 repeat' (first|(refine rg_ ?_;intro K hK)|(refine hq_ ?_;clear hK K)|refine ca_ ?_ ?_|refine gq_ ?_|(refine c2_ ?_ ?_<;>(intro hb hb';try(exfalso;omega)))|(refine cg_ ?_;first|refine cT_ (yR z 0 ((l.length:Int) - 1)) ?_|refine cT_ (oh l z hn) ?_|refine cT_ (mJ l z hw) ?_)|refine sz_ (a6_ @aJ @aO @au @GPart.el hinB hd) ?_|refine nv ?_|exact bq_|fail)
 all_goals exact aS ⟨_,rfl,by first|rfl|(unfold kOk;simp[*];done)|(unfold kOk;simp[*];rfl),trivial⟩
theorem Ap(l:List GPart)(z:Int)(hw:l.length+D.wts (l.map GPart.toD)≤1048576)(h0:0≤z)(hlt:z.toNat<l.length)(hd:sK l z=false)(hcy:onC l z=true):aI Tryz.prog 84 [.sl (l.map GPart.toD),li z] (.c false [.raw (.bool (false))]):=by
 have hn:l.length≤1048576:=by omega
 refine aY (fn:=Tryz.f84) (t:=4) (hc:=oq) (h:= ?_);unfold qo;refine zb_ ?_;change AWP _ _ _ (st0 35 _);simp only[undef,stS,st0,stN,D.av,D.avN,dD,bf,dG,dF,dK,bV,bP,bM,aJ,aO,au,GPart.aV,GPart.aK,GPart.aW,GPart.el,g_,j_,f_,d_,e_,a_,b_,h_,i_];have hinB:inB z 0 ((l.length:Int) - 1)=true:=by simp[inB];omega
 repeat' (first|(refine rg_ ?_;intro K hK)|(refine hq_ ?_;clear hK K)|refine ca_ ?_ ?_|refine gq_ ?_|(refine c2_ ?_ ?_<;>(intro hb hb';try(exfalso;omega)))|(refine cg_ ?_;first|refine cT_ (yR z 0 ((l.length:Int) - 1)) ?_|refine cT_ (oh l z hn) ?_|refine cT_ (mJ l z hw) ?_)|refine sz_ (a7_ @aJ @aO @au @GPart.el hinB hd hcy) ?_|refine nv ?_|exact bq_|fail)
 all_goals exact aS ⟨_,rfl,by first|rfl|(unfold kOk;simp[*];done)|(unfold kOk;simp[*];rfl),trivial⟩
theorem Am(l:List GPart)(z:Int)(hw:l.length+D.wts (l.map GPart.toD)≤1048576)(h0:0≤z)(hlt:z.toNat<l.length)(hd:sK l z=false)(hcy:onC l z=false):aI Tryz.prog 84 [.sl (l.map GPart.toD),li z] (.c false [.raw (.bool (kOk l[z.toNat]))]):=by
 have hn:l.length≤1048576:=by omega
 refine aY (fn:=Tryz.f84) (t:=4) (hc:=oq) (h:= ?_);unfold qo;refine zb_ ?_;change AWP _ _ _ (st0 35 _);simp only[undef,stS,st0,stN,D.av,D.avN,dD,bf,dG,dF,dK,bV,bP,bM,aJ,aO,au,GPart.aV,GPart.aK,GPart.aW,GPart.el,g_,j_,f_,d_,e_,a_,b_,h_,i_];have hinB:inB z 0 ((l.length:Int) - 1)=true:=by simp[inB];omega
 repeat' (first|(refine rg_ ?_;intro K hK)|(refine hq_ ?_;clear hK K)|refine ca_ ?_ ?_|refine gq_ ?_|(refine c2_ ?_ ?_<;>(intro hb hb';try(exfalso;omega)))|(refine cg_ ?_;first|refine cT_ (yR z 0 ((l.length:Int) - 1)) ?_|refine cT_ (oh l z hn) ?_|refine cT_ (mJ l z hw) ?_)|refine sz_ (a7_ @aJ @aO @au @GPart.el hinB hd hcy) ?_|refine nv ?_|exact bq_|fail)
 all_goals exact aS ⟨_,rfl,by first|rfl|(unfold kOk;simp[*];done)|(unfold kOk;simp[*];rfl),trivial⟩
theorem Ar(l:List GPart)(z:Int)(hw:l.length+D.wts (l.map GPart.toD)≤1048576)(hin:¬(0≤z∧z.toNat<l.length)):aI Tryz.prog 84 [.sl (l.map GPart.toD),li z] (.c false [.raw (.bool false)]):=by
 have hn:l.length≤1048576:=by omega
 refine aY (fn:=Tryz.f84) (t:=4) (hc:=oq) (h:= ?_);unfold qo;refine zb_ ?_;change AWP _ _ _ (st0 35 _);simp only[undef,stS,st0,stN,D.av,D.avN,dD,bf,dG,dF,dK,bV,bP,bM,aJ,aO,au,GPart.aV,GPart.aK,GPart.aW,GPart.el,g_,j_,f_,d_,e_,a_,b_,h_,i_];have hinB:inB z 0 ((l.length:Int) - 1)=false:=by simp[inB];omega
 repeat' (first|(refine rg_ ?_;intro K hK)|(refine hq_ ?_;clear hK K)|refine ca_ ?_ ?_|refine gq_ ?_|(refine c2_ ?_ ?_<;>(intro hb hb';try(exfalso;omega)))|(refine cg_ ?_;first|refine cT_ (yR z 0 ((l.length:Int) - 1)) ?_|refine cT_ (oh l z hn) ?_|refine cT_ (mJ l z hw) ?_)|refine sz_ (a5_ @aJ @aO @au @GPart.el hinB) ?_|refine nv ?_|exact bq_|fail)
 all_goals exact aS ⟨_,rfl,rfl,trivial⟩
theorem mX(l:List GPart)(z:Int)(hw:l.length+D.wts (l.map GPart.toD)≤1048576):aI Tryz.prog 84 [.sl (l.map GPart.toD),li z] (.c false [.raw (.bool (bI l z))]):=by
 by_cases hin:0≤z∧z.toNat<l.length
 ·have hr:=Gs l hin.1 hin.2;cases hd:sK l z with
  | true=>
    have e:bI l z=false:=by rw[hr,hd];simp
    rw[e];exact Aq l z hw hin.1 hin.2 hd
  | false=>
    cases hcy:onC l z with
    | true=>
      have e:bI l z=false:=by rw[hr,hcy];simp
      rw[e];exact Ap l z hw hin.1 hin.2 hd hcy
    | false=>
      have e:bI l z=kOk l[z.toNat]:=by rw[hr,hd,hcy];simp
      rw[e];exact Am l z hw hin.1 hin.2 hd hcy
 ·rw[Hu l hin];exact Ar l z hw hin
end
section
open List renaming length_cons→a_,length_nil→b_,take_succ_eq_append_getElem→c_,cons_append→d_,nil_append→e_,replicate→f_,map_cons→g_,map_nil→j_,length_append→m_,length_take→n_,length_filter_le→o_,length_map→p_,getElem?_eq_getElem→r_,take_length→s_,filter_append→u_,filter_cons→w_,map_take→z_
open Nat renaming reduceAdd→h_,reduceSub→i_,zero_le→k_,le_trans→t_,lt_or_ge→v_,le_refl→A_
open Bool renaming and_eq_true→l_,eq_false_iff→q_,eq_iff_iff→x_,true_and→y_
theorem acn{st:St}{d:Nat}{x:AV}(h:st.fr[d]? =some x):st.put (some d) x=st:=by
 obtain⟨fr,os,bs⟩:=st;simp only[St.put]at h⊢;congr 1;refine List.ext_getElem? fun n=> ?_
 rw[List.getElem?_set];split
 ·next e=>
  subst e;have:=(List.getElem?_eq_some_iff.1 h).1;rw[if_pos this,h]
 ·rfl
theorem gU{P:Program}{K:St→Prop}{d g:Nat}{w:Bool}{i:I}{rest:List IOp}{st:St}(hg:gdA st (some (g,w))=some false)(hu:st.fr[d]? =some (.c false [.raw undef]))(h:sw P K rest st):sw P K (⟨some d,some (g,w),i⟩::rest) st:=eY hg (by rw[acn hu];exact h)
theorem o1{P:Program}{K:St→Prop}{d:Option Nat}{i:I}{r:IOp}{rest:List IOp}{st:St}(h:∀K':St→Prop,(∀st',sw P K (r::rest) st'→K' st')→sw P K' [⟨d,none,i⟩] st):sw P K (⟨d,none,i⟩::r::rest) st:=h (sw P K (r::rest)) (fun _ h=>h)
theorem oT{P:Program}{K:St→Prop}{d:Option Nat}{g:Nat}{w:Bool}{i:I}{rest:List IOp}{st:St}(hg:gdA st (some (g,w))=some true)(h:∀K':St→Prop,(∀st',sw P K rest st'→K' st')→sw P K' [⟨d,none,i⟩] st):sw P K (⟨d,some (g,w),i⟩::rest) st:=eX hg (h (sw P K rest) (fun _ h=>h))
attribute [local irreducible] sw sd sn
def iJ :IC:=(zd_ [zj_ 4 false] (zd_ [zw_ 5 1,zm_ 6 .geq 5 0,zw_ 7 6,zv_ 8 7 1,zv_ 9 7 0,zy_ 10 7 (.len false (.t 9)),zy_ 11 7 (.bin .lss (.t 8) (.t 10)),zh_ 12 7 11 false,zw_ 13 12,zv_ 14 13 0,zv_ 15 13 1,zy_ 16 13 (.iad 14 (.t 14) (.t 15)),zy_ 17 13 (.fad 0 (.t 16)),zy_ 18 13 (.load 1 false (.t 17)),zy_ 19 13 (.bin .eql (.t 18) (.k (.int .i64 2))),zv_ 20 13 19,zu_ 21 20 0,zu_ 22 20 1,zx_ 23 20 (.iad 14 (.t 21) (.t 22)),zx_ 24 20 (.fad 0 (.t 23)),zx_ 25 20 (.load 1 false (.t 24)),zx_ 26 20 (.bin .eql (.t 25) (.k (.int .i64 3))),zy_ 27 13 (.pick (.t 20) (.k (.bool true)) (.t 26)),zh_ 28 13 27 false,zw_ 29 28,zv_ 30 29 0,zv_ 31 29 1,zy_ 32 29 (.call 28 [(.t 30),(.t 31)]),zy_ 33 29 (.not (.t 32)),zh_ 34 29 33 false,zw_ 35 34,zv_ 36 35 0,zv_ 37 35 1,zy_ 38 35 (.call 16 [(.t 36),(.t 37)]),zy_ 39 35 (.not (.t 38)),zh_ 40 35 39 false,zw_ 4 40] .ret))
theorem gq :ak Tryz.prog (Tryz.f51.body.getD .skip)=some iJ:=by kernel_rfl
theorem zD(l:List GPart)(z:Int)(hw:l.length+D.wts (l.map GPart.toD)≤1048576)(h0:0≤z)(hlt:z.toNat<l.length)(hk:l[z.toNat].kind=2)(hd:sK l z=true):aI Tryz.prog 51 [.sl (l.map GPart.toD),li z] (.c false [.raw (.bool (false))]):=by
 have hn:l.length≤1048576:=by omega
 have c0:decide (z≥0)=true:=decide_eq_true (by omega);have c1:decide (z<(l.length:Int))=true:=decide_eq_true (by omega);have g:idx (l.map GPart.toD) (some z)=some (l[z.toNat]).toD:=by
  have:=bU GPart.toD l hlt;rw[show((z.toNat:Nat):Int)=z by omega]at this;exact this
 have hpa:=GPart.aV l[z.toNat] false;have k2:(l[z.toNat].kind==2)=true:=by rw[hk];rfl
 have hdu:=lQ l z hn;rw[hd]at hdu;refine aY (fn:=Tryz.f51) (t:=4) (hc:=gq) (h:= ?_);unfold iJ;refine zb_ ?_;change AWP _ _ _ (st0 41 _);refine sS trivial ?_
 repeat' (first|(refine rg_ ?_;intro K hK)|(refine hq_ ?_;clear hK K)|refine ca_ ?_ ?_|((with_reducible refine gi ?_);first|(refine oT rfl ?_;intro K hK)|refine gU rfl rfl ?_)|((with_reducible refine o1 ?_);intro K hK)|(refine cg_ ?_;first|refine cT_ hdu ?_)|refine sz_ (a5_ c0 c1 g hpa k2) ?_|refine nv ?_|exact bq_|fail)
 all_goals first
  |exact GPart.el _
  |exact aS ⟨_,rfl,⟨rfl,trivial⟩⟩
theorem zB(l:List GPart)(z:Int)(hw:l.length+D.wts (l.map GPart.toD)≤1048576)(h0:0≤z)(hlt:z.toNat<l.length)(hk:l[z.toNat].kind=2)(hd:sK l z=false)(hcy:onC l z=true):aI Tryz.prog 51 [.sl (l.map GPart.toD),li z] (.c false [.raw (.bool (false))]):=by
 have hn:l.length≤1048576:=by omega
 have c0:decide (z≥0)=true:=decide_eq_true (by omega);have c1:decide (z<(l.length:Int))=true:=decide_eq_true (by omega);have g:idx (l.map GPart.toD) (some z)=some (l[z.toNat]).toD:=by
  have:=bU GPart.toD l hlt;rw[show((z.toNat:Nat):Int)=z by omega]at this;exact this
 have hpa:=GPart.aV l[z.toNat] false;have k2:(l[z.toNat].kind==2)=true:=by rw[hk];rfl
 have hdu:=lQ l z hn;rw[hd]at hdu;have hcc:=mM l z hw;rw[hcy]at hcc;refine aY (fn:=Tryz.f51) (t:=4) (hc:=gq) (h:= ?_);unfold iJ;refine zb_ ?_;change AWP _ _ _ (st0 41 _);refine sS trivial ?_
 repeat' (first|(refine rg_ ?_;intro K hK)|(refine hq_ ?_;clear hK K)|refine ca_ ?_ ?_|((with_reducible refine gi ?_);first|(refine oT rfl ?_;intro K hK)|refine gU rfl rfl ?_)|((with_reducible refine o1 ?_);intro K hK)|(refine cg_ ?_;first|refine cT_ hdu ?_|refine cT_ hcc ?_)|refine sz_ (a5_ c0 c1 g hpa k2) ?_|refine nv ?_|exact bq_|fail)
 all_goals first
  |exact GPart.el _
  |exact aS ⟨_,rfl,⟨rfl,trivial⟩⟩
theorem zy(l:List GPart)(z:Int)(hw:l.length+D.wts (l.map GPart.toD)≤1048576)(h0:0≤z)(hlt:z.toNat<l.length)(hk:l[z.toNat].kind=2)(hd:sK l z=false)(hcy:onC l z=false):aI Tryz.prog 51 [.sl (l.map GPart.toD),li z] (.c false [.raw (.bool (true))]):=by
 have hn:l.length≤1048576:=by omega
 have c0:decide (z≥0)=true:=decide_eq_true (by omega);have c1:decide (z<(l.length:Int))=true:=decide_eq_true (by omega);have g:idx (l.map GPart.toD) (some z)=some (l[z.toNat]).toD:=by
  have:=bU GPart.toD l hlt;rw[show((z.toNat:Nat):Int)=z by omega]at this;exact this
 have hpa:=GPart.aV l[z.toNat] false;have k2:(l[z.toNat].kind==2)=true:=by rw[hk];rfl
 have hdu:=lQ l z hn;rw[hd]at hdu;have hcc:=mM l z hw;rw[hcy]at hcc;refine aY (fn:=Tryz.f51) (t:=4) (hc:=gq) (h:= ?_);unfold iJ;refine zb_ ?_;change AWP _ _ _ (st0 41 _);refine sS trivial ?_
 repeat' (first|(refine rg_ ?_;intro K hK)|(refine hq_ ?_;clear hK K)|refine ca_ ?_ ?_|((with_reducible refine gi ?_);first|(refine oT rfl ?_;intro K hK)|refine gU rfl rfl ?_)|((with_reducible refine o1 ?_);intro K hK)|(refine cg_ ?_;first|refine cT_ hdu ?_|refine cT_ hcc ?_)|refine sz_ (a5_ c0 c1 g hpa k2) ?_|refine nv ?_|exact bq_|fail)
 all_goals first
  |exact GPart.el _
  |exact aS ⟨_,rfl,⟨rfl,trivial⟩⟩
theorem zC(l:List GPart)(z:Int)(hw:l.length+D.wts (l.map GPart.toD)≤1048576)(h0:0≤z)(hlt:z.toNat<l.length)(hk:l[z.toNat].kind=3)(hd:sK l z=true):aI Tryz.prog 51 [.sl (l.map GPart.toD),li z] (.c false [.raw (.bool (false))]):=by
 have hn:l.length≤1048576:=by omega
 have c0:decide (z≥0)=true:=decide_eq_true (by omega);have c1:decide (z<(l.length:Int))=true:=decide_eq_true (by omega);have g:idx (l.map GPart.toD) (some z)=some (l[z.toNat]).toD:=by
  have:=bU GPart.toD l hlt;rw[show((z.toNat:Nat):Int)=z by omega]at this;exact this
 have hpa:=GPart.aV l[z.toNat] false;have k2:(l[z.toNat].kind==2)=false:=by rw[hk];rfl
 have k3:(l[z.toNat].kind==3)=true:=by rw[hk];rfl
 have hdu:=lQ l z hn;rw[hd]at hdu;refine aY (fn:=Tryz.f51) (t:=4) (hc:=gq) (h:= ?_);unfold iJ;refine zb_ ?_;change AWP _ _ _ (st0 41 _);refine sS trivial ?_
 repeat' (first|(refine rg_ ?_;intro K hK)|(refine hq_ ?_;clear hK K)|refine ca_ ?_ ?_|((with_reducible refine gi ?_);first|(refine oT rfl ?_;intro K hK)|refine gU rfl rfl ?_)|((with_reducible refine o1 ?_);intro K hK)|(refine cg_ ?_;first|refine cT_ hdu ?_)|refine sz_ (a6_ c0 c1 g hpa k2 k3) ?_|refine nv ?_|exact bq_|fail)
 all_goals first
  |exact GPart.el _
  |exact aS ⟨_,rfl,⟨rfl,trivial⟩⟩
theorem zA(l:List GPart)(z:Int)(hw:l.length+D.wts (l.map GPart.toD)≤1048576)(h0:0≤z)(hlt:z.toNat<l.length)(hk:l[z.toNat].kind=3)(hd:sK l z=false)(hcy:onC l z=true):aI Tryz.prog 51 [.sl (l.map GPart.toD),li z] (.c false [.raw (.bool (false))]):=by
 have hn:l.length≤1048576:=by omega
 have c0:decide (z≥0)=true:=decide_eq_true (by omega);have c1:decide (z<(l.length:Int))=true:=decide_eq_true (by omega);have g:idx (l.map GPart.toD) (some z)=some (l[z.toNat]).toD:=by
  have:=bU GPart.toD l hlt;rw[show((z.toNat:Nat):Int)=z by omega]at this;exact this
 have hpa:=GPart.aV l[z.toNat] false;have k2:(l[z.toNat].kind==2)=false:=by rw[hk];rfl
 have k3:(l[z.toNat].kind==3)=true:=by rw[hk];rfl
 have hdu:=lQ l z hn;rw[hd]at hdu;have hcc:=mM l z hw;rw[hcy]at hcc;refine aY (fn:=Tryz.f51) (t:=4) (hc:=gq) (h:= ?_);unfold iJ;refine zb_ ?_;change AWP _ _ _ (st0 41 _);refine sS trivial ?_
 repeat' (first|(refine rg_ ?_;intro K hK)|(refine hq_ ?_;clear hK K)|refine ca_ ?_ ?_|((with_reducible refine gi ?_);first|(refine oT rfl ?_;intro K hK)|refine gU rfl rfl ?_)|((with_reducible refine o1 ?_);intro K hK)|(refine cg_ ?_;first|refine cT_ hdu ?_|refine cT_ hcc ?_)|refine sz_ (a6_ c0 c1 g hpa k2 k3) ?_|refine nv ?_|exact bq_|fail)
 all_goals first
  |exact GPart.el _
  |exact aS ⟨_,rfl,⟨rfl,trivial⟩⟩
theorem zx(l:List GPart)(z:Int)(hw:l.length+D.wts (l.map GPart.toD)≤1048576)(h0:0≤z)(hlt:z.toNat<l.length)(hk:l[z.toNat].kind=3)(hd:sK l z=false)(hcy:onC l z=false):aI Tryz.prog 51 [.sl (l.map GPart.toD),li z] (.c false [.raw (.bool (true))]):=by
 have hn:l.length≤1048576:=by omega
 have c0:decide (z≥0)=true:=decide_eq_true (by omega);have c1:decide (z<(l.length:Int))=true:=decide_eq_true (by omega);have g:idx (l.map GPart.toD) (some z)=some (l[z.toNat]).toD:=by
  have:=bU GPart.toD l hlt;rw[show((z.toNat:Nat):Int)=z by omega]at this;exact this
 have hpa:=GPart.aV l[z.toNat] false;have k2:(l[z.toNat].kind==2)=false:=by rw[hk];rfl
 have k3:(l[z.toNat].kind==3)=true:=by rw[hk];rfl
 have hdu:=lQ l z hn;rw[hd]at hdu;have hcc:=mM l z hw;rw[hcy]at hcc;refine aY (fn:=Tryz.f51) (t:=4) (hc:=gq) (h:= ?_);unfold iJ;refine zb_ ?_;change AWP _ _ _ (st0 41 _);refine sS trivial ?_
 repeat' (first|(refine rg_ ?_;intro K hK)|(refine hq_ ?_;clear hK K)|refine ca_ ?_ ?_|((with_reducible refine gi ?_);first|(refine oT rfl ?_;intro K hK)|refine gU rfl rfl ?_)|((with_reducible refine o1 ?_);intro K hK)|(refine cg_ ?_;first|refine cT_ hdu ?_|refine cT_ hcc ?_)|refine sz_ (a6_ c0 c1 g hpa k2 k3) ?_|refine nv ?_|exact bq_|fail)
 all_goals first
  |exact GPart.el _
  |exact aS ⟨_,rfl,⟨rfl,trivial⟩⟩
theorem Au(l:List GPart)(z:Int)(hw:l.length+D.wts (l.map GPart.toD)≤1048576)(h0:0≤z)(hlt:z.toNat<l.length)(hk:¬l[z.toNat].kind=2)(hk2:¬l[z.toNat].kind=3):aI Tryz.prog 51 [.sl (l.map GPart.toD),li z] (.c false [.raw (.bool (false))]):=by
 have hn:l.length≤1048576:=by omega
 have c0:decide (z≥0)=true:=decide_eq_true (by omega);have c1:decide (z<(l.length:Int))=true:=decide_eq_true (by omega);have g:idx (l.map GPart.toD) (some z)=some (l[z.toNat]).toD:=by
  have:=bU GPart.toD l hlt;rw[show((z.toNat:Nat):Int)=z by omega]at this;exact this
 have hpa:=GPart.aV l[z.toNat] false;have k2:(l[z.toNat].kind==2)=false:=by simp[hk]
 have k3:(l[z.toNat].kind==3)=false:=by simp[hk2]
 refine aY (fn:=Tryz.f51) (t:=4) (hc:=gq) (h:= ?_);unfold iJ;refine zb_ ?_;change AWP _ _ _ (st0 41 _);refine sS trivial ?_
 repeat' (first|(refine rg_ ?_;intro K hK)|(refine hq_ ?_;clear hK K)|refine ca_ ?_ ?_|((with_reducible refine gi ?_);first|(refine oT rfl ?_;intro K hK)|refine gU rfl rfl ?_)|((with_reducible refine o1 ?_);intro K hK)|refine sz_ (a6_ c0 c1 g hpa k2 k3) ?_|refine nv ?_|exact bq_|fail)
 all_goals first
  |exact GPart.el _
  |exact aS ⟨_,rfl,⟨rfl,trivial⟩⟩
theorem zG(l:List GPart)(z:Int)(hw:l.length+D.wts (l.map GPart.toD)≤1048576)(h0:¬0≤z):aI Tryz.prog 51 [.sl (l.map GPart.toD),li z] (.c false [.raw (.bool (false))]):=by
 have hn:l.length≤1048576:=by omega
 have c0:decide (z≥0)=false:=decide_eq_false (by omega);refine aY (fn:=Tryz.f51) (t:=4) (hc:=gq) (h:= ?_);unfold iJ;refine zb_ ?_;change AWP _ _ _ (st0 41 _);refine sS trivial ?_
 repeat' (first|(refine rg_ ?_;intro K hK)|(refine hq_ ?_;clear hK K)|refine ca_ ?_ ?_|((with_reducible refine gi ?_);first|(refine oT rfl ?_;intro K hK)|refine gU rfl rfl ?_)|((with_reducible refine o1 ?_);intro K hK)|refine sz_ c0 ?_|refine nv ?_|exact bq_|fail)
 all_goals first
  |exact GPart.el _
  |exact aS ⟨_,rfl,⟨rfl,trivial⟩⟩
theorem zF(l:List GPart)(z:Int)(hw:l.length+D.wts (l.map GPart.toD)≤1048576)(h0:0≤z)(hlt:¬z.toNat<l.length):aI Tryz.prog 51 [.sl (l.map GPart.toD),li z] (.c false [.raw (.bool (false))]):=by
 have hn:l.length≤1048576:=by omega
 have c0:decide (z≥0)=true:=decide_eq_true (by omega);have c1:decide (z<(l.length:Int))=false:=decide_eq_false (by omega);refine aY (fn:=Tryz.f51) (t:=4) (hc:=gq) (h:= ?_);unfold iJ;refine zb_ ?_;change AWP _ _ _ (st0 41 _);refine sS trivial ?_
 repeat' (first|(refine rg_ ?_;intro K hK)|(refine hq_ ?_;clear hK K)|refine ca_ ?_ ?_|((with_reducible refine gi ?_);first|(refine oT rfl ?_;intro K hK)|refine gU rfl rfl ?_)|((with_reducible refine o1 ?_);intro K hK)|refine sz_ (aiX c0 c1) ?_|refine nv ?_|exact bq_|fail)
 all_goals first
  |exact GPart.el _
  |exact aS ⟨_,rfl,⟨rfl,trivial⟩⟩
theorem Aw(l:List GPart)(z:Int)(hw:l.length+D.wts (l.map GPart.toD)≤1048576)(hin:¬(0≤z∧z.toNat<l.length)):aI Tryz.prog 51 [.sl (l.map GPart.toD),li z] (.c false [.raw (.bool false)]):=by
 by_cases h0:0≤z
 ·exact zF l z hw h0 (fun h=>hin ⟨h0,h⟩)
 ·exact zG l z hw h0
theorem iQ(l:List GPart)(z:Int)(hw:l.length+D.wts (l.map GPart.toD)≤1048576):aI Tryz.prog 51 [.sl (l.map GPart.toD),li z] (.c false [.raw (.bool (bI l z))]):=by
 by_cases hin:0≤z∧z.toNat<l.length
 ·have hr:=Gs l hin.1 hin.2;by_cases hk:l[z.toNat].kind=2
  ·cases hd:sK l z with
   | true=>
     have e:bI l z=false:=by rw[hr,hd];simp
     rw[e];exact zD l z hw hin.1 hin.2 hk hd
   | false=>
     cases hcy:onC l z with
     | true=>
       have e:bI l z=false:=by rw[hr,hcy];simp
       rw[e];exact zB l z hw hin.1 hin.2 hk hd hcy
     | false=>
       have e:bI l z=true:=by rw[hr,hd,hcy];unfold kOk;rw[hk];rfl
       rw[e];exact zy l z hw hin.1 hin.2 hk hd hcy
  ·by_cases hk3:l[z.toNat].kind=3
   ·cases hd:sK l z with
    | true=>
      have e:bI l z=false:=by rw[hr,hd];simp
      rw[e];exact zC l z hw hin.1 hin.2 hk3 hd
    | false=>
      cases hcy:onC l z with
      | true=>
        have e:bI l z=false:=by rw[hr,hcy];simp
        rw[e];exact zA l z hw hin.1 hin.2 hk3 hd hcy
      | false=>
        have e:bI l z=true:=by rw[hr,hd,hcy];unfold kOk;rw[hk3];rfl
        rw[e];exact zx l z hw hin.1 hin.2 hk3 hd hcy
   ·have e:bI l z=false:=by rw[hr];unfold kOk;simp[hk,hk3]
    rw[e];exact Au l z hw hin.1 hin.2 hk hk3
 ·rw[Hu l hin];exact Aw l z hw hin
end
section
open List renaming length_cons→a_,length_nil→b_,take_succ_eq_append_getElem→c_,cons_append→d_,nil_append→e_,replicate→f_,map_cons→g_,map_nil→j_,length_append→m_,length_take→n_,length_filter_le→o_,length_map→p_,getElem?_eq_getElem→r_,take_length→s_,filter_append→u_,filter_cons→w_,map_take→z_
open Nat renaming reduceAdd→h_,reduceSub→i_,zero_le→k_,le_trans→t_,lt_or_ge→v_,le_refl→A_
open Bool renaming and_eq_true→l_,eq_false_iff→q_,eq_iff_iff→x_,true_and→y_
attribute [local irreducible] sw sd sn
noncomputable def lU(l:List GPart)(z:Int):List Nat:=(duI l z).filter fun k:Nat=>bI l (k:Int)
theorem yP(l:List GPart)(z:Int):(lU l z).length≤l.length:=t_ (o_ _ _) (Df l z)
theorem ac1(l:List GPart)(z:Int):∀x∈lU l z,x<l.length:=fun x h=>aed l z x (List.mem_filter.1 h).1
theorem adM{α:Type}(p:α→Bool)(l:List α){k:Nat}(h:k<l.length)(e:p l[k]=true):(l.take (k+1)).filter p=(l.take k).filter p++ [l[k]]:=by
 rw[c_ h,u_,w_,if_pos e];rfl
theorem adN{α:Type}(p:α→Bool)(l:List α){k:Nat}(h:k<l.length)(e:p l[k]=false):(l.take (k+1)).filter p=(l.take k).filter p:=by
 rw[c_ h,u_,w_,if_neg (by simp[e])];simp
def zO :IC:=(zd_ [zz_ 4 (.mov (.k (.slice none 0 0)))] (zd_ [zz_ 8 (.brow true 3 1 0 false []),zw_ 5 8] (zd_ [zw_ 9 0,zw_ 10 1,zp_ 11 19 9 10,zw_ 6 11] (.seq (zd_ [zk_ 7 0] (.block 0 (.loop (.seq (zd_ [zw_ 12 7,zw_ 13 6,zf_ 14 false 13,zl_ 15 .lss 12 14] (.cond (.t 15) .skip (.exit 0))) (.seq (.block 1 (zd_ [zw_ 18 0,zw_ 19 6,zw_ 20 7,ze_ 21 1 19 20,zs_ 22 1 21,zp_ 23 84 18 22] (.cond (.t 23) (.reg false [zw_ 24 5,zw_ 25 6,zw_ 26 7,ze_ 27 1 25 26,zs_ 28 1 27,zz_ 29 (.brow false 3 1 1 false [(.t 28)]),zz_ 30 (.app 3 1 (.t 24) (.t 29)),zw_ 5 30]) .skip))) (.reg false [zw_ 16 7,zm_ 17 .add 16 1,zw_ 7 17])))))) (zd_ [zw_ 31 5,zw_ 4 31] .ret)))))
theorem Ec :ak Tryz.prog (Tryz.f87.body.getD .skip)=some zO:=by kernel_rfl
theorem KA(l:List GPart)(z:Int)(hw:l.length+D.wts (l.map GPart.toD)≤1048576):bZ Tryz.prog 87 [.sl (l.map GPart.toD),li z] ((lU l z).map ln) 3 1:=by
 have hn:l.length≤1048576:=by omega
 have hdl:=Df l z;have hdu:=iT l z hw;unfold lU;obtain⟨D0,hD⟩:∃D0,duI l z=D0:=⟨_,rfl⟩
 rw[hD]at hdl hdu⊢;clear hD;refine fM (fn:=Tryz.f87) (t:=4) (hc:=Ec) (h:= ?_);unfold zO;refine zb_ ?_;change AWP _ _ _ (st0 32 _);simp only[undef,stS,st0,stN,D.av,D.avN,dD,bf,dG,dF,dK,bV,bP,bM,aJ,aO,au,GPart.aV,GPart.aK,GPart.aW,GPart.el,g_,j_,f_,d_,e_,a_,b_,h_,i_]
 repeat' (first|(refine rg_ ?_;intro K hK)|(refine hq_ ?_;clear hK K)|refine ca_ ?_ ?_|(refine cg_ ?_;first|(refine dA hdu (aO _) ?_ ?_))|refine sz_ (a4_ @aJ @aO @au @GPart.el) ?_|refine nv ?_|(refine c2_ ?_ ?_<;>(intro hb hb';try(exfalso;omega)))|exact bq_|fail)
 refine aQ (X:=Nat×Nat) (fun q=> [.k,.d,.d,.d,.d,.v (.c false [.own 0 q.2]),.k,.v (.c false [.raw (.int .i64 (q.1:Nat))])]) (fun q=> [⟨((D0.take q.1).filter fun k:Nat=>bI l (k:Int)).map ln,3,1,q.2,true⟩,⟨D0.map ln,3,1,0,true⟩]) (fun q bs=>bs) (fun q=>q.1≤D0.length) (fun q=>D0.length - q.1) (0,0) (k_ _) ?_ ?_
 ·simp[aG,aU,aC,aF,AV.fits,AC.fits,FB,aB]
 rintro⟨k,v⟩ hk;have hk':k≤D0.length:=hk;clear hk;have hfl:((D0.take k).filter fun k:Nat=>bI l (k:Int)).length≤D0.length:=t_ (o_ _ _) (by rw[n_];omega);simp only[FB,aB];by_cases hlk:k<D0.length
 ·have hrun:=mX l (D0[k]:Int) hw;cases hh:bI l ((D0[k]:Nat):Int)with
  | true=>
    have hs:=adM (fun k:Nat=>bI l (k:Int)) D0 hlk hh
    repeat' (first|(refine rg_ ?_;intro K hK)|(refine hq_ ?_;clear hK K)|refine ca_ ?_ ?_|(refine cg_ ?_;first|refine cT_ hrun ?_)|refine sz_ (a5_ @aJ @aO @au @GPart.el hh) ?_|refine nv ?_|(refine c2_ ?_ ?_<;>(intro hb hb';try(exfalso;omega)))|exact bq_|fail)
    all_goals first
     |(simp only[p_,m_,a_,b_];omega)
     | (refine aP (k+1,v+1) ?_ (show k+1≤D0.length by omega) (show D0.length - (k+1)<D0.length - k by omega)
        simp[aG,aU,aC,aF,AV.fits,AC.fits,FB,aB,hs,ln,li])
  | false=>
    have hs:=adN (fun k:Nat=>bI l (k:Int)) D0 hlk hh
    repeat' (first|(refine rg_ ?_;intro K hK)|(refine hq_ ?_;clear hK K)|refine ca_ ?_ ?_|(refine cg_ ?_;first|refine cT_ hrun ?_)|refine sz_ (a5_ @aJ @aO @au @GPart.el hh) ?_|refine nv ?_|(refine c2_ ?_ ?_<;>(intro hb hb';try(exfalso;omega)))|exact bq_|fail)
    all_goals first
     |(simp only[p_,m_,a_,b_];omega)
     | (refine aP (k+1,v) ?_ (show k+1≤D0.length by omega) (show D0.length - (k+1)<D0.length - k by omega)
        simp[aG,aU,aC,aF,AV.fits,AC.fits,FB,aB,hs])
 ·obtain rfl:k=D0.length:=by omega
  repeat' (first|(refine rg_ ?_;intro K hK)|(refine hq_ ?_;clear hK K)|refine ca_ ?_ ?_|refine sz_ (a4_ @aJ @aO @au @GPart.el) ?_|refine nv ?_|(refine c2_ ?_ ?_<;>(intro hb hb';try(exfalso;omega)))|exact bq_|fail)
  exact aS ⟨0,_,_,rfl,rfl,rfl,by simp,rfl,rfl,Or.inl rfl⟩
def zQ :IC:=(zd_ [zz_ 4 (.mov (.k (.slice none 0 0)))] (zd_ [zz_ 8 (.brow true 3 1 0 false []),zw_ 5 8] (.seq (zd_ [zw_ 9 0,zw_ 10 1,zp_ 11 41 9 10,zf_ 12 false 11,zk_ 13 0] (.block 0 (.loop (zd_ [zl_ 14 .lss 13 12] (.seq (.cond (.t 14) .skip (.exit 0)) (.seq (.block 1 (zd_ [ze_ 15 1 11 13,zs_ 16 1 15,zw_ 7 16] (zd_ [zw_ 17 0,zw_ 18 7,zp_ 19 51 17 18] (.cond (.t 19) (.reg false [zw_ 20 5,zw_ 21 7,zz_ 22 (.brow false 3 1 1 false [(.t 21)]),zz_ 23 (.app 3 1 (.t 20) (.t 22)),zw_ 5 23]) .skip)))) (.reg false [zm_ 24 .add 13 1,zw_ 13 24]))))))) (zd_ [zw_ 25 5,zw_ 4 25] .ret))))
theorem Ed :ak Tryz.prog (Tryz.f79.body.getD .skip)=some zQ:=by kernel_rfl
theorem uy(l:List GPart)(z:Int)(hw:l.length+D.wts (l.map GPart.toD)≤1048576):bZ Tryz.prog 79 [.sl (l.map GPart.toD),li z] ((lU l z).map ln) 3 1:=by
 have hn:l.length≤1048576:=by omega
 have hdl:=Df l z;have hdu:=rX l z hw;unfold lU;obtain⟨D0,hD⟩:∃D0,duI l z=D0:=⟨_,rfl⟩
 rw[hD]at hdl hdu⊢;clear hD;refine fM (fn:=Tryz.f79) (t:=4) (hc:=Ed) (h:= ?_);unfold zQ;refine zb_ ?_;change AWP _ _ _ (st0 26 _);simp only[undef,stS,st0,stN,D.av,D.avN,dD,bf,dG,dF,dK,bV,bP,bM,aJ,aO,au,GPart.aV,GPart.aK,GPart.aW,GPart.el,g_,j_,f_,d_,e_,a_,b_,h_,i_]
 repeat' (first|(refine rg_ ?_;intro K hK)|(refine hq_ ?_;clear hK K)|refine ca_ ?_ ?_|(refine cg_ ?_;first|(refine dA hdu (aO _) ?_ ?_))|refine sz_ (a4_ @aJ @aO @au @GPart.el) ?_|refine nv ?_|(refine c2_ ?_ ?_<;>(intro hb hb';try(exfalso;omega)))|exact bq_|fail)
 refine aQ (X:=Nat×Nat) (fun q=> [.k,.d,.d,.d,.d,.v (.c false [.own 0 q.2]),.d,.d,.d,.d,.d,.k,.k,.v (.c false [.raw (.int .i64 (q.1:Nat))])]) (fun q=> [⟨((D0.take q.1).filter fun k:Nat=>bI l (k:Int)).map ln,3,1,q.2,true⟩,⟨D0.map ln,3,1,0,true⟩]) (fun q bs=>bs) (fun q=>q.1≤D0.length) (fun q=>D0.length - q.1) (0,0) (k_ _) ?_ ?_
 ·simp[aG,aU,aC,aF,AV.fits,AC.fits,FB,aB]
 rintro⟨k,v⟩ hk;have hk':k≤D0.length:=hk;clear hk;have hfl:((D0.take k).filter fun k:Nat=>bI l (k:Int)).length≤D0.length:=t_ (o_ _ _) (by rw[n_];omega);simp only[FB,aB];by_cases hlk:k<D0.length
 ·have hrun:=iQ l (D0[k]:Int) hw;cases hh:bI l ((D0[k]:Nat):Int)with
  | true=>
    have hs:=adM (fun k:Nat=>bI l (k:Int)) D0 hlk hh
    repeat' (first|(refine rg_ ?_;intro K hK)|(refine hq_ ?_;clear hK K)|refine ca_ ?_ ?_|(refine cg_ ?_;first|refine cT_ hrun ?_)|refine sz_ (a5_ @aJ @aO @au @GPart.el hh) ?_|refine nv ?_|(refine c2_ ?_ ?_<;>(intro hb hb';try(exfalso;omega)))|exact bq_|fail)
    all_goals first
     |(simp only[p_,m_,a_,b_];omega)
     | (refine aP (k+1,v+1) ?_ (show k+1≤D0.length by omega) (show D0.length - (k+1)<D0.length - k by omega)
        simp[aG,aU,aC,aF,AV.fits,AC.fits,FB,aB,hs,ln,li])
  | false=>
    have hs:=adN (fun k:Nat=>bI l (k:Int)) D0 hlk hh
    repeat' (first|(refine rg_ ?_;intro K hK)|(refine hq_ ?_;clear hK K)|refine ca_ ?_ ?_|(refine cg_ ?_;first|refine cT_ hrun ?_)|refine sz_ (a5_ @aJ @aO @au @GPart.el hh) ?_|refine nv ?_|(refine c2_ ?_ ?_<;>(intro hb hb';try(exfalso;omega)))|exact bq_|fail)
    all_goals first
     |(simp only[p_,m_,a_,b_];omega)
     | (refine aP (k+1,v) ?_ (show k+1≤D0.length by omega) (show D0.length - (k+1)<D0.length - k by omega)
        simp[aG,aU,aC,aF,AV.fits,AC.fits,FB,aB,hs])
 ·obtain rfl:k=D0.length:=by omega
  repeat' (first|(refine rg_ ?_;intro K hK)|(refine hq_ ?_;clear hK K)|refine ca_ ?_ ?_|refine sz_ (a4_ @aJ @aO @au @GPart.el) ?_|refine nv ?_|(refine c2_ ?_ ?_<;>(intro hb hb';try(exfalso;omega)))|exact bq_|fail)
  exact aS ⟨0,_,_,rfl,rfl,rfl,by simp,rfl,rfl,Or.inl rfl⟩
def sN(ns:List Nat)(o:List Int):Bool:=ns.all fun k=>fF o (k:Int)
theorem Zm{ns:List Nat}{o:List Int}{k:Nat}(h:k<ns.length)(e:fF o (ns[k]:Int)=false):sN ns o=false:=by
 rw[q_];intro hall;have:=List.all_eq_true.1 hall ns[k] (List.getElem_mem h);rw[e]at this;cases this
theorem ND(ns:List Nat)(o:List Int){k:Nat}(h:k<ns.length):sN (ns.take (k+1)) o=(sN (ns.take k) o && fF o (ns[k]:Int)):=by
 unfold sN;rw[c_ h,List.all_append];simp
def CP :IC:=(zd_ [zj_ 4 false] (.seq (zd_ [zk_ 5 0] (.block 0 (.loop (.seq (zd_ [zw_ 6 5,zw_ 7 1,zf_ 8 false 7,zl_ 9 .lss 6 8] (.cond (.t 9) .skip (.exit 0))) (.seq (.block 1 (zd_ [zw_ 12 0,zw_ 13 1,zw_ 14 5,ze_ 15 1 13 14,zs_ 16 1 15,zp_ 17 85 12 16,zz_ 18 (.not (.t 17))] (.cond (.t 18) (zd_ [zj_ 4 false] .ret) .skip))) (.reg false [zw_ 10 5,zm_ 11 .add 10 1,zw_ 5 11])))))) (zd_ [zj_ 4 true] .ret)))
theorem F5 :ak Tryz.prog (Tryz.f86.body.getD .skip)=some CP:=by kernel_rfl
theorem PD(ns:List Nat)(o:List Int)(h1:ns.length≤4194304)(h2:o.length≤4194304):aI Tryz.prog 86 [.sl (o.map li),.sl (ns.map ln)] (.c false [.raw (.bool (sN ns o))]):=by
 refine aY (fn:=Tryz.f86) (t:=4) (hc:=F5) (h:= ?_);unfold CP;refine zb_ ?_;change AWP _ _ _ (st0 19 _);simp only[undef,stS,st0,stN,D.av,D.avN,dD,bf,dG,dF,dK,bV,bP,bM,aJ,aO,au,GPart.aV,GPart.aK,GPart.aW,GPart.el,g_,j_,f_,d_,e_,a_,b_,h_,i_]
 repeat' (first|(refine rg_ ?_;intro K hK)|(refine hq_ ?_;clear hK K)|refine ca_ ?_ ?_|refine sz_ (a4_ @aJ @aO @au @GPart.el) ?_|refine nv ?_|(refine c2_ ?_ ?_<;>(intro hb hb';try(exfalso;omega)))|exact bq_|fail)
 refine aQ (X:=Nat) (fun q=> [.k,.k,.d,.d,.d,.v (.c false [.raw (.int .i64 (q:Nat))])]) (fun q=> []) (fun q bs=> []) (fun q=>q≤ns.length∧sN (ns.take q) o=true) (fun q=>ns.length - q) 0 ⟨k_ _,by simp[sN]⟩ ?_ ?_
 ·simp[aG,aU,aC,aF,AV.fits,AC.fits,FB,aB]
 rintro k ⟨hk,hf⟩;simp only[FB,aB];by_cases hlt:k<ns.length
 ·cases he:fF o (ns[k]:Int)with
  | false=>
    have ht:=Zm hlt he
    repeat' (first|(refine rg_ ?_;intro K hK)|(refine hq_ ?_;clear hK K)|refine ca_ ?_ ?_|(refine cg_ ?_;first|refine cT_ (nZ o (ns[k]:Int) h2) ?_)|refine sz_ (a5_ @aJ @aO @au @GPart.el he) ?_|refine nv ?_|(refine c2_ ?_ ?_<;>(intro hb hb';try(exfalso;omega)))|exact bq_|fail)
    exact aS ⟨_,rfl,by rw[ht];rfl,trivial⟩
  | true=>
    have ht:=ND ns o hlt;rw[hf,he]at ht
    repeat' (first|(refine rg_ ?_;intro K hK)|(refine hq_ ?_;clear hK K)|refine ca_ ?_ ?_|(refine cg_ ?_;first|refine cT_ (nZ o (ns[k]:Int) h2) ?_)|refine sz_ (a5_ @aJ @aO @au @GPart.el he) ?_|refine nv ?_|(refine c2_ ?_ ?_<;>(intro hb hb';try(exfalso;omega)))|exact bq_|fail)
    refine aP (k+1) ?_ ⟨by omega,ht⟩ (show ns.length - (k+1)<ns.length - k by omega);simp[aG,aU,aC,aF,AV.fits,AC.fits,FB,aB]
 ·obtain rfl:k=ns.length:=by omega
  rw[s_]at hf
  repeat' (first|(refine rg_ ?_;intro K hK)|(refine hq_ ?_;clear hK K)|refine ca_ ?_ ?_|refine sz_ (a4_ @aJ @aO @au @GPart.el) ?_|refine nv ?_|(refine c2_ ?_ ?_<;>(intro hb hb';try(exfalso;omega)))|exact bq_|fail)
  exact aS ⟨_,rfl,by rw[hf];rfl,trivial⟩
def Fa :IC:=(zd_ [zj_ 4 false] (.seq (zd_ [zw_ 7 0,zf_ 8 false 7,zk_ 9 0] (.block 0 (.loop (zd_ [zl_ 10 .lss 9 8] (.seq (.cond (.t 10) .skip (.exit 0)) (.seq (.block 1 (zd_ [ze_ 11 1 7 9,zs_ 12 1 11,zw_ 6 12] (zd_ [zw_ 13 1,zw_ 14 6,zp_ 15 58 13 14,zz_ 16 (.not (.t 15))] (.cond (.t 16) (zd_ [zj_ 4 false] .ret) .skip)))) (.reg false [zm_ 17 .add 9 1,zw_ 9 17]))))))) (zd_ [zj_ 4 true] .ret)))
theorem Jk :ak Tryz.prog (Tryz.f78.body.getD .skip)=some Fa:=by kernel_rfl
theorem Dq(ns:List Nat)(o:List Int)(h1:ns.length≤4194304)(h2:o.length≤4194304):aI Tryz.prog 78 [.sl (ns.map ln),.sl (o.map li)] (.c false [.raw (.bool (sN ns o))]):=by
 refine aY (fn:=Tryz.f78) (t:=4) (hc:=Jk) (h:= ?_);unfold Fa;refine zb_ ?_;change AWP _ _ _ (st0 18 _);simp only[undef,stS,st0,stN,D.av,D.avN,dD,bf,dG,dF,dK,bV,bP,bM,aJ,aO,au,GPart.aV,GPart.aK,GPart.aW,GPart.el,g_,j_,f_,d_,e_,a_,b_,h_,i_]
 repeat' (first|(refine rg_ ?_;intro K hK)|(refine hq_ ?_;clear hK K)|refine ca_ ?_ ?_|refine sz_ (a4_ @aJ @aO @au @GPart.el) ?_|refine nv ?_|(refine c2_ ?_ ?_<;>(intro hb hb';try(exfalso;omega)))|exact bq_|fail)
 refine aQ (X:=Nat) (fun q=> [.d,.k,.d,.d,.d,.d,.d,.k,.k,.v (.c false [.raw (.int .i64 (q:Nat))])]) (fun q=> []) (fun q bs=> []) (fun q=>q≤ns.length∧sN (ns.take q) o=true) (fun q=>ns.length - q) 0 ⟨k_ _,by simp[sN]⟩ ?_ ?_
 ·simp[aG,aU,aC,aF,AV.fits,AC.fits,FB,aB]
 rintro k ⟨hk,hf⟩;simp only[FB,aB];by_cases hlt:k<ns.length
 ·cases he:fF o (ns[k]:Int)with
  | false=>
    have ht:=Zm hlt he
    repeat' (first|(refine rg_ ?_;intro K hK)|(refine hq_ ?_;clear hK K)|refine ca_ ?_ ?_|(refine cg_ ?_;first|refine cT_ (rW o (ns[k]:Int) h2) ?_)|refine sz_ (a5_ @aJ @aO @au @GPart.el he) ?_|refine nv ?_|(refine c2_ ?_ ?_<;>(intro hb hb';try(exfalso;omega)))|exact bq_|fail)
    exact aS ⟨_,rfl,by rw[ht];rfl,trivial⟩
  | true=>
    have ht:=ND ns o hlt;rw[hf,he]at ht
    repeat' (first|(refine rg_ ?_;intro K hK)|(refine hq_ ?_;clear hK K)|refine ca_ ?_ ?_|(refine cg_ ?_;first|refine cT_ (rW o (ns[k]:Int) h2) ?_)|refine sz_ (a5_ @aJ @aO @au @GPart.el he) ?_|refine nv ?_|(refine c2_ ?_ ?_<;>(intro hb hb';try(exfalso;omega)))|exact bq_|fail)
    refine aP (k+1) ?_ ⟨by omega,ht⟩ (show ns.length - (k+1)<ns.length - k by omega);simp[aG,aU,aC,aF,AV.fits,AC.fits,FB,aB]
 ·obtain rfl:k=ns.length:=by omega
  rw[s_]at hf
  repeat' (first|(refine rg_ ?_;intro K hK)|(refine hq_ ?_;clear hK K)|refine ca_ ?_ ?_|refine sz_ (a4_ @aJ @aO @au @GPart.el) ?_|refine nv ?_|(refine c2_ ?_ ?_<;>(intro hb hb';try(exfalso;omega)))|exact bq_|fail)
  exact aS ⟨_,rfl,by rw[hf];rfl,trivial⟩
end
section
open List renaming length_cons→a_,length_nil→b_,take_succ_eq_append_getElem→c_,cons_append→d_,nil_append→e_,replicate→f_,map_cons→g_,map_nil→j_,length_append→m_,length_take→n_,length_filter_le→o_,length_map→p_,getElem?_eq_getElem→r_,take_length→s_,filter_append→u_,filter_cons→w_,map_take→z_
open Nat renaming reduceAdd→h_,reduceSub→i_,zero_le→k_,le_trans→t_,lt_or_ge→v_,le_refl→A_
open Bool renaming and_eq_true→l_,eq_false_iff→q_,eq_iff_iff→x_,true_and→y_
def aag(R:Int→Bool)(M:Int→List Int→Bool)(o:List Int)(k:Nat):Bool:=
 match o[k]? with
 |some z=>R z && !fF (o.take k) z && M z (o.take k)
 |none=>true
def lN(R:Int→Bool)(M:Int→List Int→Bool)(o:List Int):Nat→Bool
 |0=>true
 |k+1=>lN R M o k && aag R M o k
theorem tH{R:Int→Bool}{M:Int→List Int→Bool}{o:List Int}{k:Nat}(h:k<o.length):aag R M o k=(R o[k] && !fF (o.take k) o[k] && M o[k] (o.take k)):=by
 unfold aag;rw[r_ h]
theorem DZ{R:Int→Bool}{M:Int→List Int→Bool}{o:List Int}:∀{k n:Nat},k≤n→lN R M o n=true→lN R M o k=true
 | k, 0, h, h1 => by obtain rfl:k=0:=by omega
                     exact h1
 | k,n+1,h,h1=>by
   rcases v_ k (n+1)with h2|h2
   ·simp only[lN,l_]at h1;exact DZ (by omega) h1.1
   ·obtain rfl:k=n+1:=by omega
    exact h1
theorem uU{R:Int→Bool}{M:Int→List Int→Bool}{o:List Int}{k:Nat}(h:k<o.length)(e:aag R M o k=false):lN R M o o.length=false:=by
 rw[q_];intro h1;have h2:=DZ (k:=k+1) h h1;simp only[lN,l_,e]at h2;exact absurd h2.2 (by simp)
theorem JK{R:Int→Bool}{M:Int→List Int→Bool}{N:Nat}(hR:∀z,R z=true→0≤z∧z.toNat<N){o:List Int}:∀{k:Nat},k≤o.length→lN R M o k=true→cO (fun x=>R x && !fF (o.take k) x) (fun _=>1) N+k=cO (fun x=>R x) (fun _=>1) N
 | 0,_,_=>by
   rw[zU (q:=fun x=>R x)]
   ·rfl
   ·intro x _;simp[fF]
 | k +1,hk,h=>by
   simp only[lN,l_]at h;have ih:=JK hR (k:=k) (by omega) h.1;have h2:=h.2;rw[tH (by omega)]at h2;simp only[l_,Bool.not_eq_true']at h2;obtain⟨h0,hN⟩:=hR _ h2.1.1;have e:((o[k].toNat:Nat):Int)=o[k]:=by omega
   have:=xw (p:=fun x=>R x && !fF (o.take k) x) (q:=fun x=>R x && !fF (o.take (k+1)) x) (g:=fun _=>1) (k:=o[k].toNat) (n:=N) (by simp only[e,h2.1.1,h2.1.2];rfl) (by
    simp only[e];have:fF (o.take (k+1)) o[k]=true:=rV.2 (by rw[c_ (by omega)];exact List.mem_append_right _ (List.mem_singleton.2 rfl));rw[this];simp) (fun x hx=>by
    have:fF (o.take (k+1)) (x:Int)=fF (o.take k) x:=by
     unfold fF;rw[c_ (by omega),List.any_append];have:(o[k]==(x:Int))=false:=by
      rw[beq_eq_false_iff_ne];intro e';apply hx;omega
     simp[this]
    rw[this]) hN
   omega
theorem DN{p:Nat→Bool}:∀{n:Nat},cO p (fun _=>1) n=0↔∀x,x<n→p x=false
 |0=>by simp[cO]
 | n + 1=>by
   simp only[cO];constructor
   ·intro h x hx;cases hp:p n with
    |true=>rw[hp]at h;simp at h
    | false=>
      rcases v_ x n with h'|h'
      ·exact DN.1 (by omega) x h'
      ·obtain rfl:x=n:=by omega
       exact hp
   ·intro h;rw[DN.2 (fun x hx=>h x (by omega)),h n (by omega)];simp
theorem Bz{p:Nat→Bool}:∀{n:Nat},cO p (fun _=>1) n≤n
 |0=>A_ _
 | n+1=>by
   have:=Bz (p:=p) (n:=n);simp only[cO];split<;>omega
theorem acU{R:Int→Bool}{M:Int→List Int→Bool}{N:Nat}(hR:∀z,R z=true→0≤z∧z.toNat<N){o:List Int}{k:Nat}(hk:k≤o.length)(h:lN R M o k=true):k≤N:=by
 have:=JK hR hk h;have:=Bz (p:=fun x=>R (x:Int)) (n:=N);omega
def Gh(R:Int→Bool)(o:List Int):Nat→Bool
 |0=>true
 |k+1=>Gh R o k && (!R k || fF o k)
theorem Dp{R:Int→Bool}{o:List Int}:∀{n:Nat},Gh R o n=true↔∀x:Nat,x<n→(R x && !fF o x)=false
 |0=>by simp[Gh]
 | n +1=>by
   simp only[Gh,l_,Dp (n:=n)];constructor
   ·rintro⟨h1,h2⟩ x hx;rcases v_ x n with h'|h'
    ·exact h1 x h'
    ·obtain rfl:x=n:=by omega
     revert h2;cases R (x:Int)<;>cases fF o x<;>simp
   ·intro h;refine⟨fun x hx=>h x (by omega), ?_⟩;have:=h n (by omega)
    revert this;cases R (n:Int)<;>cases fF o n<;>simp
theorem Yg{R:Int→Bool}{M:Int→List Int→Bool}{N:Nat}(hR:∀z,R z=true→0≤z∧z.toNat<N){o:List Int}(h:lN R M o o.length=true):(decide (cO (fun x=>R x) (fun _=>1) N=o.length))=Gh R o N:=by
 have h1:=JK hR (A_ _) h;rw[s_]at h1;rw[x_,Dp,decide_eq_true_iff,← DN];omega
end
section
open List renaming length_cons→a_,length_nil→b_,take_succ_eq_append_getElem→c_,cons_append→d_,nil_append→e_,replicate→f_,map_cons→g_,map_nil→j_,length_append→m_,length_take→n_,length_filter_le→o_,length_map→p_,getElem?_eq_getElem→r_,take_length→s_,filter_append→u_,filter_cons→w_,map_take→z_
open Nat renaming reduceAdd→h_,reduceSub→i_,zero_le→k_,le_trans→t_,lt_or_ge→v_,le_refl→A_
open Bool renaming and_eq_true→l_,eq_false_iff→q_,eq_iff_iff→x_,true_and→y_
attribute [local irreducible] sw sd sn
theorem yK{P:Program}{f:Nat}{ds l:List D}{e s:Nat}(h:bZ P f ds l e s):aI P f ds (.c false [.sl true l]):=fun w vs hr ht=>(h w vs hr ht).mono fun en w' ⟨v,cs,f,he,h1,h2,h3,h4⟩=>
 ⟨v,he,⟨⟨_,Sl.nD h1 h2,fun b hb=>by
   have hB:w.heap.size≤b:=by
    rcases List.mem_append.1 hb with hb|hb
    ·exact(bF.lt h1 b (by simpa using hb)).1
    ·exact(h3 b hb).2
   have:=Gw w.heap.size b (Or.inl hB);exact⟨this.1,fun _=>this.2⟩⟩,trivial⟩,h4⟩
noncomputable def uz(l:List GPart)(z:Int)(o:List Int):Bool:=sN (lU l z) o
noncomputable def qL(l:List GPart)(o:List Int):Bool:=lN (bI l) (uz l) o o.length && Gh (bI l) o l.length
theorem lM(l:List GPart)(z:Int)(h:bI l z=true):0≤z∧z.toNat<l.length:=by
 by_cases hin:0≤z∧z.toNat<l.length
 ·exact hin
 ·rw[Hu l hin]at h;cases h
theorem aeM{R:Int→Bool}{o:List Int}{n k:Nat}(h:k<n)(e1:R k=true)(e2:fF o k=false):Gh R o n=false:=by
 rw[q_];intro h1;have:=Dp.1 h1 k h;rw[e1,e2]at this;cases this
theorem Uw{R:Int→Bool}{o:List Int}{k:Nat}(h:Gh R o k=true)(e:(R k && !fF o k)=false):Gh R o (k+1)=true:=by
 simp only[Gh,h,y_]
 revert e
 cases R (k:Int)<;>cases fF o (k:Int)<;>simp
theorem afs{l:List GPart}{o:List Int}(h:lN (bI l) (uz l) o o.length=true):(((cO (fun x:Nat=>bI l (x:Int)) (fun _=>1) l.length:Nat):Int)==(o.length:Int))=qL l o:=by
 unfold qL;rw[h,← Yg (lM l) h,y_,x_,decide_eq_true_iff,beq_iff_eq];omega
def ES :IC:=(zd_ [zj_ 4 false] (zd_ [zk_ 5 0] (.seq (zd_ [zk_ 6 0] (.block 0 (.loop (.seq (zd_ [zw_ 8 6,zw_ 9 0,zf_ 10 false 9,zl_ 11 .lss 8 10] (.cond (.t 11) .skip (.exit 0))) (.seq (.block 1 (zd_ [zw_ 14 0,zw_ 15 6,zp_ 16 84 14 15] (.cond (.t 16) (.reg false [zw_ 17 5,zm_ 18 .add 17 1,zw_ 5 18]) .skip))) (.reg false [zw_ 12 6,zm_ 13 .add 12 1,zw_ 6 13])))))) (.seq (zd_ [zk_ 7 0] (.block 2 (.loop (.seq (zd_ [zw_ 19 7,zw_ 20 1,zf_ 21 false 20,zl_ 22 .lss 19 21] (.cond (.t 22) .skip (.exit 2))) (.seq (.block 3 (.seq (.regN true [] [zw_ 25 0,zw_ 26 1,zw_ 27 7,ze_ 28 1 26 27,zs_ 29 1 28,zp_ 30 84 25 29,zz_ 31 (.not (.t 30)),zw_ 32 31,zu_ 33 32 1,zu_ 34 32 7,zx_ 35 32 (.lsl 1 (.t 33) none (some (.t 34))),zu_ 36 32 1,zu_ 37 32 7,zx_ 38 32 (.iad 1 (.t 36) (.t 37)),zx_ 39 32 (.load 1 false (.t 38)),zx_ 40 32 (.call 85 [(.t 35),(.t 39)]),zg_ 41 32 true 40,zw_ 42 41,zu_ 43 42 1,zu_ 44 42 7,zx_ 45 42 (.lsl 1 (.t 43) none (some (.t 44))),zu_ 46 42 0,zu_ 47 42 1,zu_ 48 42 7,zx_ 49 42 (.iad 1 (.t 47) (.t 48)),zx_ 50 42 (.load 1 false (.t 49)),zx_ 51 42 (.call 87 [(.t 46),(.t 50)]),zx_ 52 42 (.call 86 [(.t 45),(.t 51)]),zx_ 53 42 (.not (.t 52)),zg_ 54 42 true 53]) (.cond (.t 54) (zd_ [zj_ 4 false] .ret) .skip))) (.reg false [zw_ 23 7,zm_ 24 .add 23 1,zw_ 7 24])))))) (zd_ [zw_ 55 5,zw_ 56 1,zf_ 57 false 56,zl_ 58 .eql 55 57,zw_ 4 58] .ret)))))
theorem IZ :ak Tryz.prog (Tryz.f54.body.getD .skip)=some ES:=by kernel_rfl
theorem Az(l:List GPart)(o:List Int)(hw:l.length+D.wts (l.map GPart.toD)≤1048576)(ho:o.length≤4194304):aI Tryz.prog 54 [.sl (l.map GPart.toD),.sl (o.map li)] (.c false [.raw (.bool (qL l o))]):=by
 have hn:l.length≤1048576:=by omega
 refine aY (fn:=Tryz.f54) (t:=4) (hc:=IZ) (h:= ?_);unfold ES;refine zb_ ?_;change AWP _ _ _ (st0 59 _);refine sS trivial ?_
 repeat' (first|(refine hq_ ?_;clear hK K)|refine ca_ ?_ ?_|refine gq_ ?_|(refine c2_ ?_ ?_<;>(intro hb hb';try(exfalso;omega)))|refine sz_ (a4_ @aJ @aO @au @GPart.el) ?_|refine nv ?_|(refine rD ?_;intro K hK)|exact bq_|fail)
 refine aQ (X:=Nat) (fun q=> [.k,.k,.d,.d,.d,.v (.c false [.raw (.int .i64 (cO (fun x:Nat=>bI l (x:Int)) (fun _=>1) q:Nat))]),.v (.c false [.raw (.int .i64 (q:Nat))])]) (fun q=> []) (fun q bs=> []) (fun q=>q≤l.length) (fun q=>l.length - q) 0 (k_ _) ?_ ?_
 ·simp[aG,aU,aC,aF,AV.fits,AC.fits,FB,aB,cO]
 rintro k hk;have hk':k≤l.length:=hk;clear hk;have hsl:=Bz (p:=fun x:Nat=>bI l (x:Int)) (n:=k);simp only[FB,aB];by_cases hlt:k<l.length
 ·have hrun:=mX l (k:Int) hw;cases hh:bI l (k:Int)with
  | true=>
    have hs:cO (fun x:Nat=>bI l (x:Int)) (fun _=>1) (k+1)=cO (fun x:Nat=>bI l (x:Int)) (fun _=>1) k+1:=by simp[cO,hh]
    repeat' (first|(refine hq_ ?_;clear hK K)|refine ca_ ?_ ?_|refine gq_ ?_|(refine c2_ ?_ ?_<;>(intro hb hb';try(exfalso;omega)))|(refine cg_ ?_;first|refine cT_ hrun ?_)|refine sz_ (a5_ @aJ @aO @au @GPart.el hh) ?_|refine nv ?_|(refine rD ?_;intro K hK)|exact bq_|fail)
    refine aP (k+1) ?_ (show k+1≤l.length by omega) (show l.length - (k+1)<l.length - k by omega);simp[aG,aU,aC,aF,AV.fits,AC.fits,FB,aB,hs]
  | false=>
    have hs:cO (fun x:Nat=>bI l (x:Int)) (fun _=>1) (k+1)=cO (fun x:Nat=>bI l (x:Int)) (fun _=>1) k:=by simp[cO,hh]
    repeat' (first|(refine hq_ ?_;clear hK K)|refine ca_ ?_ ?_|refine gq_ ?_|(refine c2_ ?_ ?_<;>(intro hb hb';try(exfalso;omega)))|(refine cg_ ?_;first|refine cT_ hrun ?_)|refine sz_ (a5_ @aJ @aO @au @GPart.el hh) ?_|refine nv ?_|(refine rD ?_;intro K hK)|exact bq_|fail)
    refine aP (k+1) ?_ (show k+1≤l.length by omega) (show l.length - (k+1)<l.length - k by omega);simp[aG,aU,aC,aF,AV.fits,AC.fits,FB,aB,hs]
 obtain rfl:k=l.length:=by omega
 repeat' (first|(refine hq_ ?_;clear hK K)|refine ca_ ?_ ?_|refine gq_ ?_|(refine c2_ ?_ ?_<;>(intro hb hb';try(exfalso;omega)))|refine sz_ (a4_ @aJ @aO @au @GPart.el) ?_|refine nv ?_|(refine rD ?_;intro K hK)|exact bq_|fail)
 refine aQ (X:=Nat) (fun q=> [.k,.k,.d,.d,.d,.k,.d,.v (.c false [.raw (.int .i64 (q:Nat))])]) (fun q=> []) (fun q bs=> []) (fun q=>q≤o.length∧lN (bI l) (uz l) o q=true) (fun q=>o.length - q) 0 ⟨k_ _,rfl⟩ ?_ ?_
 ·simp[aG,aU,aC,aF,AV.fits,AC.fits,FB,aB]
 rintro k ⟨hk,hf⟩;simp only[FB,aB];by_cases hlt:k<o.length
 ·have hat:=tH (R:=bI l) (M:=uz l) hlt;have hmet:uz l o[k] (o.take k)=sN (lU l o[k]) (o.take k):=rfl;have hrun:=mX l o[k] hw;have htk:(o.map li).take k=(o.take k).map li:=z_.symm;have htl:(o.take k).length≤4194304:=by rw[n_];omega
  have hnl:=yP l o[k];have hne:=yK (KA l o[k] hw);have hha:=nZ (o.take k) o[k] htl;have hall:=PD (lU l o[k]) (o.take k) (by omega) htl;obtain⟨ns,hns⟩:∃ns,lU l o[k]=ns:=⟨_,rfl⟩
  rw[hns]at hne hall hnl hmet;obtain⟨ok,hok⟩:∃ok,o.take k=ok:=⟨_,rfl⟩
  rw[hok]at hha hall htk htl hmet hat;rw[hmet]at hat;cases h1:bI l o[k]with
  | false=>
    have hno:=uU hlt (hat.trans (by rw[h1];rfl))
    repeat' (first|(refine hq_ ?_;clear hK K)|refine ca_ ?_ ?_|refine gq_ ?_|(refine c2_ ?_ ?_<;>(intro hb hb';try(exfalso;omega)))|(refine cg_ ?_;first|refine cT_ hrun ?_|refine cT_ hha ?_|refine cT_ hne ?_|refine cT_ hall ?_)|refine sz_ (a6_ @aJ @aO @au @GPart.el h1 htk) ?_|refine nv ?_|(refine rD ?_;intro K hK)|exact bq_|fail)
    exact aS ⟨_,rfl,by unfold qL;rw[hno];rfl,trivial⟩
  | true=>
    cases h2:fF ok o[k]with
    | true=>
      have hno:=uU hlt (hat.trans (by rw[h1,h2];rfl))
      repeat' (first|(refine hq_ ?_;clear hK K)|refine ca_ ?_ ?_|refine gq_ ?_|(refine c2_ ?_ ?_<;>(intro hb hb';try(exfalso;omega)))|(refine cg_ ?_;first|refine cT_ hrun ?_|refine cT_ hha ?_|refine cT_ hne ?_|refine cT_ hall ?_)|refine sz_ (a7_ @aJ @aO @au @GPart.el h1 h2 htk) ?_|refine nv ?_|(refine rD ?_;intro K hK)|exact bq_|fail)
      exact aS ⟨_,rfl,by unfold qL;rw[hno];rfl,trivial⟩
    | false=>
      cases h3:sN ns ok with
      | false=>
        have hno:=uU hlt (hat.trans (by rw[h1,h2,h3];rfl))
        repeat' (first|(refine hq_ ?_;clear hK K)|refine ca_ ?_ ?_|refine gq_ ?_|(refine c2_ ?_ ?_<;>(intro hb hb';try(exfalso;omega)))|(refine cg_ ?_;first|refine cT_ hrun ?_|refine cT_ hha ?_|refine cT_ hne ?_|refine cT_ hall ?_)|refine sz_ (a8_ @aJ @aO @au @GPart.el h1 h2 h3 htk) ?_|refine nv ?_|(refine rD ?_;intro K hK)|exact bq_|fail)
        exact aS ⟨_,rfl,by unfold qL;rw[hno];rfl,trivial⟩
      | true=>
        have hs:lN (bI l) (uz l) o (k+1)=true:=by simp only[lN];rw[hf,hat,h1,h2,h3];rfl
        repeat' (first|(refine hq_ ?_;clear hK K)|refine ca_ ?_ ?_|refine gq_ ?_|(refine c2_ ?_ ?_<;>(intro hb hb';try(exfalso;omega)))|(refine cg_ ?_;first|refine cT_ hrun ?_|refine cT_ hha ?_|refine cT_ hne ?_|refine cT_ hall ?_)|refine sz_ (a8_ @aJ @aO @au @GPart.el h1 h2 h3 htk) ?_|refine nv ?_|(refine rD ?_;intro K hK)|exact bq_|fail)
        refine aP (k+1) ?_ ⟨by omega,hs⟩ (show o.length - (k+1)<o.length - k by omega);simp[aG,aU,aC,aF,AV.fits,AC.fits,FB,aB]
 ·obtain rfl:k=o.length:=by omega
  have hend:=afs hf
  repeat' (first|(refine hq_ ?_;clear hK K)|refine ca_ ?_ ?_|refine gq_ ?_|(refine c2_ ?_ ?_<;>(intro hb hb';try(exfalso;omega)))|refine sz_ (a4_ @aJ @aO @au @GPart.el) ?_|refine nv ?_|(refine rD ?_;intro K hK)|exact bq_|fail)
  exact aS ⟨_,rfl,by rw[← hend];rfl,trivial⟩
def ET :IC:=(zd_ [zj_ 4 false] (.seq (zd_ [zw_ 8 1,zf_ 9 false 8,zk_ 10 0] (.block 0 (.loop (zd_ [zl_ 11 .lss 10 9] (.seq (.cond (.t 11) .skip (.exit 0)) (.seq (.block 1 (zd_ [zw_ 12 10,ze_ 13 1 8 10,zs_ 14 1 13,zw_ 5 12,zw_ 6 14] (.seq (.regN true [] [zw_ 15 0,zw_ 16 6,zp_ 17 51 15 16,zz_ 18 (.not (.t 17)),zw_ 19 18,zu_ 20 19 1,zu_ 21 19 5,zx_ 22 19 (.lsl 1 (.t 20) none (some (.t 21))),zu_ 23 19 6,zx_ 24 19 (.call 58 [(.t 22),(.t 23)]),zg_ 25 19 true 24,zw_ 26 25,zu_ 27 26 0,zu_ 28 26 6,zx_ 29 26 (.call 79 [(.t 27),(.t 28)]),zu_ 30 26 1,zu_ 31 26 5,zx_ 32 26 (.lsl 1 (.t 30) none (some (.t 31))),zx_ 33 26 (.call 78 [(.t 29),(.t 32)]),zx_ 34 26 (.not (.t 33)),zg_ 35 26 true 34]) (.cond (.t 35) (zd_ [zj_ 4 false] .ret) .skip)))) (.reg false [zm_ 36 .add 10 1,zw_ 10 36]))))))) (.seq (zd_ [zw_ 37 0,zf_ 38 false 37,zk_ 39 0] (.block 2 (.loop (zd_ [zl_ 40 .lss 39 38] (.seq (.cond (.t 40) .skip (.exit 2)) (.seq (.block 3 (zd_ [zw_ 41 39,zw_ 7 41] (zd_ [zw_ 42 0,zw_ 43 7,zp_ 44 51 42 43,zw_ 45 44,zv_ 46 45 1,zv_ 47 45 7,zy_ 48 45 (.call 58 [(.t 46),(.t 47)]),zy_ 49 45 (.not (.t 48)),zh_ 50 45 49 false] (.cond (.t 50) (zd_ [zj_ 4 false] .ret) .skip)))) (.reg false [zm_ 51 .add 39 1,zw_ 39 51]))))))) (zd_ [zj_ 4 true] .ret))))
theorem I5 :ak Tryz.prog (Tryz.f50.body.getD .skip)=some ET:=by kernel_rfl
theorem AA(l:List GPart)(o:List Int)(hw:l.length+D.wts (l.map GPart.toD)≤1048576)(ho:o.length≤4194304):aI Tryz.prog 50 [.sl (l.map GPart.toD),.sl (o.map li)] (.c false [.raw (.bool (qL l o))]):=by
 have hn:l.length≤1048576:=by omega
 refine aY (fn:=Tryz.f50) (t:=4) (hc:=I5) (h:= ?_);unfold ET;refine zb_ ?_;change AWP _ _ _ (st0 52 _);refine sS trivial ?_
 repeat' (first|(refine hq_ ?_;clear hK K)|refine ca_ ?_ ?_|refine gq_ ?_|(refine c2_ ?_ ?_<;>(intro hb hb';try(exfalso;omega)))|refine sz_ (a4_ @aJ @aO @au @GPart.el) ?_|refine nv ?_|(refine rD ?_;intro K hK)|exact bq_|fail)
 refine aQ (X:=Nat) (fun q=> [.k,.k,.d,.d,.d,.d,.d,.d,.k,.k,.v (.c false [.raw (.int .i64 (q:Nat))])]) (fun q=> []) (fun q bs=> []) (fun q=>q≤o.length∧lN (bI l) (uz l) o q=true) (fun q=>o.length - q) 0 ⟨k_ _,rfl⟩ ?_ ?_
 ·simp[aG,aU,aC,aF,AV.fits,AC.fits,FB,aB]
 rintro k ⟨hk,hf⟩;simp only[FB,aB];by_cases hlt:k<o.length
 ·have hat:=tH (R:=bI l) (M:=uz l) hlt;have hmet:uz l o[k] (o.take k)=sN (lU l o[k]) (o.take k):=rfl;have hrun:=iQ l o[k] hw;have htk:(o.map li).take k=(o.take k).map li:=z_.symm;have htl:(o.take k).length≤4194304:=by rw[n_];omega
  have hnl:=yP l o[k];have hne:=yK (uy l o[k] hw);have hha:=rW (o.take k) o[k] htl;have hall:=Dq (lU l o[k]) (o.take k) (by omega) htl;obtain⟨ns,hns⟩:∃ns,lU l o[k]=ns:=⟨_,rfl⟩
  rw[hns]at hne hall hnl hmet;obtain⟨ok,hok⟩:∃ok,o.take k=ok:=⟨_,rfl⟩
  rw[hok]at hha hall htk htl hmet hat;rw[hmet]at hat;cases h1:bI l o[k]with
  | false=>
    have hno:=uU hlt (hat.trans (by rw[h1];rfl))
    repeat' (first|(refine hq_ ?_;clear hK K)|refine ca_ ?_ ?_|refine gq_ ?_|(refine c2_ ?_ ?_<;>(intro hb hb';try(exfalso;omega)))|(refine cg_ ?_;first|refine cT_ hrun ?_|refine cT_ hha ?_|refine cT_ hne ?_|refine cT_ hall ?_)|refine sz_ (a6_ @aJ @aO @au @GPart.el h1 htk) ?_|refine nv ?_|(refine rD ?_;intro K hK)|exact bq_|fail)
    exact aS ⟨_,rfl,by unfold qL;rw[hno];rfl,trivial⟩
  | true=>
    cases h2:fF ok o[k]with
    | true=>
      have hno:=uU hlt (hat.trans (by rw[h1,h2];rfl))
      repeat' (first|(refine hq_ ?_;clear hK K)|refine ca_ ?_ ?_|refine gq_ ?_|(refine c2_ ?_ ?_<;>(intro hb hb';try(exfalso;omega)))|(refine cg_ ?_;first|refine cT_ hrun ?_|refine cT_ hha ?_|refine cT_ hne ?_|refine cT_ hall ?_)|refine sz_ (a7_ @aJ @aO @au @GPart.el h1 h2 htk) ?_|refine nv ?_|(refine rD ?_;intro K hK)|exact bq_|fail)
      exact aS ⟨_,rfl,by unfold qL;rw[hno];rfl,trivial⟩
    | false=>
      cases h3:sN ns ok with
      | false=>
        have hno:=uU hlt (hat.trans (by rw[h1,h2,h3];rfl))
        repeat' (first|(refine hq_ ?_;clear hK K)|refine ca_ ?_ ?_|refine gq_ ?_|(refine c2_ ?_ ?_<;>(intro hb hb';try(exfalso;omega)))|(refine cg_ ?_;first|refine cT_ hrun ?_|refine cT_ hha ?_|refine cT_ hne ?_|refine cT_ hall ?_)|refine sz_ (a8_ @aJ @aO @au @GPart.el h1 h2 h3 htk) ?_|refine nv ?_|(refine rD ?_;intro K hK)|exact bq_|fail)
        exact aS ⟨_,rfl,by unfold qL;rw[hno];rfl,trivial⟩
      | true=>
        have hs:lN (bI l) (uz l) o (k+1)=true:=by simp only[lN];rw[hf,hat,h1,h2,h3];rfl
        repeat' (first|(refine hq_ ?_;clear hK K)|refine ca_ ?_ ?_|refine gq_ ?_|(refine c2_ ?_ ?_<;>(intro hb hb';try(exfalso;omega)))|(refine cg_ ?_;first|refine cT_ hrun ?_|refine cT_ hha ?_|refine cT_ hne ?_|refine cT_ hall ?_)|refine sz_ (a8_ @aJ @aO @au @GPart.el h1 h2 h3 htk) ?_|refine nv ?_|(refine rD ?_;intro K hK)|exact bq_|fail)
        refine aP (k+1) ?_ ⟨by omega,hs⟩ (show o.length - (k+1)<o.length - k by omega);simp[aG,aU,aC,aF,AV.fits,AC.fits,FB,aB]
 ·obtain rfl:k=o.length:=by omega
  repeat' (first|(refine hq_ ?_;clear hK K)|refine ca_ ?_ ?_|refine gq_ ?_|(refine c2_ ?_ ?_<;>(intro hb hb';try(exfalso;omega)))|refine sz_ (a4_ @aJ @aO @au @GPart.el) ?_|refine nv ?_|(refine rD ?_;intro K hK)|exact bq_|fail)
  refine aQ (X:=Nat) (fun q=> [.k,.k,.d,.d,.d,.d,.d,.d,.d,.d,.d,.d,.d,.d,.d,.d,.d,.d,.d,.d,.d,.d,.d,.d,.d,.d,.d,.d,.d,.d,.d,.d,.d,.d,.d,.d,.d,.d,.k,.v (.c false [.raw (.int .i64 (q:Nat))])]) (fun q=> []) (fun q bs=> []) (fun q=>q≤l.length∧Gh (bI l) o q=true) (fun q=>l.length - q) 0 ⟨k_ _,rfl⟩ ?_ ?_
  ·simp[aG,aU,aC,aF,AV.fits,AC.fits,FB,aB]
  rintro k ⟨hk,hr⟩;simp only[FB,aB];by_cases hlt:k<l.length
  ·have hrun:=iQ l (k:Int) hw;have hha:=rW o (k:Int) ho;cases h1:bI l (k:Int)with
   | false=>
     have hs:=Uw hr (by rw[h1];rfl)
     repeat' (first|(refine hq_ ?_;clear hK K)|refine ca_ ?_ ?_|refine gq_ ?_|(refine c2_ ?_ ?_<;>(intro hb hb';try(exfalso;omega)))|(refine cg_ ?_;first|refine cT_ hrun ?_|refine cT_ hha ?_)|refine sz_ (a5_ @aJ @aO @au @GPart.el h1) ?_|refine nv ?_|(refine rD ?_;intro K hK)|exact bq_|fail)
     refine aP (k+1) ?_ ⟨by omega,hs⟩ (show l.length - (k+1)<l.length - k by omega);simp[aG,aU,aC,aF,AV.fits,AC.fits,FB,aB]
   | true=>
     cases h2:fF o (k:Int)with
     | false=>
       have hno:=aeM (n:=l.length) hlt h1 h2
       repeat' (first|(refine hq_ ?_;clear hK K)|refine ca_ ?_ ?_|refine gq_ ?_|(refine c2_ ?_ ?_<;>(intro hb hb';try(exfalso;omega)))|(refine cg_ ?_;first|refine cT_ hrun ?_|refine cT_ hha ?_)|refine sz_ (a6_ @aJ @aO @au @GPart.el h1 h2) ?_|refine nv ?_|(refine rD ?_;intro K hK)|exact bq_|fail)
       exact aS ⟨_,rfl,by unfold qL;rw[hno,Bool.and_false];rfl,trivial⟩
     | true=>
       have hs:=Uw hr (by rw[h1,h2];rfl)
       repeat' (first|(refine hq_ ?_;clear hK K)|refine ca_ ?_ ?_|refine gq_ ?_|(refine c2_ ?_ ?_<;>(intro hb hb';try(exfalso;omega)))|(refine cg_ ?_;first|refine cT_ hrun ?_|refine cT_ hha ?_)|refine sz_ (a6_ @aJ @aO @au @GPart.el h1 h2) ?_|refine nv ?_|(refine rD ?_;intro K hK)|exact bq_|fail)
       refine aP (k+1) ?_ ⟨by omega,hs⟩ (show l.length - (k+1)<l.length - k by omega);simp[aG,aU,aC,aF,AV.fits,AC.fits,FB,aB]
  ·obtain rfl:k=l.length:=by omega
   repeat' (first|(refine hq_ ?_;clear hK K)|refine ca_ ?_ ?_|refine gq_ ?_|(refine c2_ ?_ ?_<;>(intro hb hb';try(exfalso;omega)))|refine sz_ (a4_ @aJ @aO @au @GPart.el) ?_|refine nv ?_|(refine rD ?_;intro K hK)|exact bq_|fail)
   exact aS ⟨_,rfl,by unfold qL;rw[hf,hr];rfl,trivial⟩
end
end Go.Proofs.YtfjmoicellpnhaaGreat
