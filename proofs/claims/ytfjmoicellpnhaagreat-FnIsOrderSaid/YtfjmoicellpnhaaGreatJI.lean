/-
  Texts joined: Fex.
-/
import Derived.Test.YtfjmoicellpnhaaGreatJG
import Derived.Test.YtfjmoicellpnhaaGreatJH
import Derived.Test.YtfjmoicellpnhaaGreatJE
set_option maxHeartbeats 16000000
set_option maxRecDepth 8000
set_option linter.unusedSimpArgs false
set_option linter.unusedVariables false
namespace Go.Proofs.YtfjmoicellpnhaaGreat
open Go.RowKit
open List renaming size_toArray→a_,length_cons→b_,length_nil→c_,drop_eq_getElem_cons→d_,getElem_mem→e_,take_succ_eq_append_getElem→g_,length_append→j_,cons_append→k_,take_length→l_,length_map→m_
open Nat renaming zero_le→f_,add_assoc→n_,le_refl→o_
open Bool renaming and_eq_true→h_
open Int renaming toNat→i_
attribute [local irreducible] sw sd sn
theorem tns :i_ 1=1∧i_ 2=2∧i_ 3=3∧i_ 4=4∧i_ 5=5:=⟨rfl,rfl,rfl,rfl,rfl⟩
theorem su{n:Nat}(h:n≤9223372036854775807):(((n:Nat):Int) > IntKind.i64.max)=False:=by
 have e3:IntKind.i64.max=9223372036854775807:=by decide
 rw[e3];simp;omega
theorem sD{a b:Nat}(h:a+b≤9223372036854775807):((9223372036854775807:Int)<(a:Int)+(b:Int))=False:=by
 simp;omega
def bsz :List ByteArray→Nat
 | []=>0
 |s::l=>s.size+bsz l
theorem GK :∀(a b:List ByteArray),bsz (a++b)=bsz a+bsz b
 | [],b=>by simp[bsz]
 |s::a,b=>by simp only[k_,bsz];rw[GK a b,n_]
theorem yS(l:List ByteArray)(b:ByteArray):∀k,k≤l.length→(tJ l b k).length≤bsz (l.take k)+k*b.size
 |0,_=>by simp[tJ]
 | k+1,h=>by
   have ih:=yS l b k (by omega);rw[Iy (by omega),j_,j_,g_ (by omega),GK,Nat.succ_mul];have h1:(if 0<k then b.data.toList else []).length≤b.size:=by split<;>simp
   have h2:(l[k]).data.toList.length=(l[k]).size:=by simp
   have h3:bsz [l[k]]=(l[k]).size:=by simp[bsz]
   omega
theorem LV(l:List ByteArray)(b:ByteArray):(Rf l b).size≤bsz l+l.length*b.size:=by
 have:=yS l b l.length (o_ _);rw[l_]at this;have h2:(Rf l b).size=(tJ l b l.length).length:=by simp[Rf,ByteArray.size]
 rw[h2];exact this
theorem bQ{P:Program}{t:Nat}{v:Value}{st:St}{post:AV→List Own→Prop}(h1:st.fr.getD t .any= .c false [.raw v])(hp:eH P (.tmp t) false 1=true)(hq:post (.c false [.raw v]) []):iG (FM P (.tmp t) post) .ret st:=
 ⟨false,_,[],[],hq,by simp[AC.out],by simp,trivial,hp,_,h1,by simp[qy,PI]⟩
def iR(e:GExpr):Nat:=32+40*e.toD.wt
def fK :List GExpr→Nat
 | []=>0
 |e::l=>iR e+fK l
theorem Jy :∀(a b:List GExpr),fK (a++b)=fK a+fK b
 | [],b=>by simp[fK]
 |s::a,b=>by simp only[k_,fK];rw[Jy a b,n_]
theorem MS :∀(l:List GExpr),fK l=32*l.length+40*D.wts (l.map GExpr.toD)
 | []=>by simp[fK,D.wts]
 |e::l=>by rw[fK,MS l,List.map_cons,D.wts,b_,iR];omega
theorem adJ(e:GExpr):iR e=32+40*e.text.size+8*e.args.length+fK e.args:=by
 rw[MS,iR,GExpr.ny e,m_];omega
theorem aeN{e y:GExpr}(h:e.allN=true)(hy:y∈e.args):y.allN=true:=by
 rw[GR,h_,List.all_eq_true]at h;exact h.1 y hy
theorem aa1{e:GExpr}(h:e.allN=true):jw e=true:=by
 rw[GR,h_]at h;exact h.2
theorem Ve{e:GExpr}(h:jw e=true):(e.kind=1∧0≤e.n∧e.n≤1000000000)∨e.kind=2∨e.kind=3∨e.kind=4∨e.kind=5∨(e.kind=6∧e.args.length=2∧1≤e.n∧e.n≤5)∨(e.kind=7∧e.args.length=2)∨(e.kind=8∧e.args.length=3)∨(e.kind=9∧e.args.length=2):=by
 unfold jw at h
 repeat' split at h
 all_goals first
  |(simp[inR]at h;omega)
  |omega
  |(simp at h)
def RY :IC:=(zd_ [zz_ 1 (.box (.t 0)),zk_ 2 0] (.seq (zd_ [zt_ 3 0 1,zs_ 4 1 3] (.block 0 (.seq (zd_ [zm_ 6 .eql 4 7,zw_ 5 6] (.cond (.t 5) .skip (zd_ [zm_ 7 .eql 4 8,zw_ 5 7] (.cond (.t 5) .skip (.reg false [zm_ 8 .eql 4 9,zw_ 5 8]))))) (.cond (.t 5) (zd_ [zk_ 2 0] .ret) (zd_ [zm_ 10 .eql 4 6,zw_ 9 10] (.cond (.t 9) (zd_ [zt_ 11 1 1,zs_ 12 1 11] (.block 1 (.seq (zd_ [zm_ 14 .eql 12 4,zw_ 13 14] (.cond (.t 13) .skip (.reg false [zm_ 15 .eql 12 5,zw_ 13 15]))) (.cond (.t 13) (zd_ [zk_ 2 1] .ret) (.seq (zd_ [zm_ 17 .eql 12 1,zw_ 16 17] (.cond (.t 16) .skip (.reg false [zm_ 18 .eql 12 2,zw_ 16 18]))) (.cond (.t 16) (zd_ [zk_ 2 2] .ret) (zd_ [zm_ 20 .eql 12 3,zw_ 19 20] (.cond (.t 19) (zd_ [zk_ 2 3] .ret) .skip)))))))) .skip)))))) (zd_ [zk_ 2 4] .ret)))
theorem RX :ak Tryz.prog (Tryz.f201.body.getD .skip)=some RY:=by kernel_rfl
theorem Yc(e:GExpr):bC Tryz.prog 201 [e.toD] (fun r os'=>(∃n:Int,0≤n∧n≤4∧r= .c false [.raw (.int .i64 n)])∧os'= []):=by
 refine dS (fn:=Tryz.f201) (r:= .tmp 2) (hc:=RX) (h:= ?_);unfold RY;refine zb_ ?_;change AWP _ _ _ (st0 21 _);refine sS trivial ?_;have kk:∀j:Int,(e.kind==j)=decide (e.kind=j):=fun j=>by by_cases h:e.kind=j<;>simp[h]
 have nn:∀j:Int,(e.n==j)=decide (e.n=j):=fun j=>by by_cases h:e.n=j<;>simp[h]
 repeat' (first|(refine rg_ ?_;intro K hK)|(refine hq_ ?_;clear hK K)|refine ca_ ?_ ?_|refine sz_ trivial ?_|refine nv ?_|(refine c2_ ?_ ?_<;>(intro hb hb';try(exfalso;omega)))|(exact GExpr.el _)|exact bq_|fail)
 all_goals exact bQ rfl rfl ⟨⟨_,by decide,by decide,rfl⟩,rfl⟩
def LY :IC:=(zd_ [zz_ 2 (.mov (.k (.string ⟨#[]⟩)))] (.seq (zd_ [zw_ 3 0,zz_ 4 (.call 60 [(.t 3),(.k (.int .i64 1)),(.k (.int .i64 5))]),zz_ 5 (.not (.t 4))] (.cond (.t 5) (zd_ [zz_ 2 (.mov (.k (.string ⟨#[63]⟩)))] .ret) .skip)) (zd_ [zz_ 6 (.brow true 9 1 6 false [(.k (.string ⟨#[]⟩)),(.k (.string ⟨#[43]⟩)),(.k (.string ⟨#[45]⟩)),(.k (.string ⟨#[42]⟩)),(.k (.string ⟨#[60]⟩)),(.k (.string ⟨#[61,61]⟩))]),zw_ 7 0,ze_ 8 1 6 7,zs_ 9 1 8,zw_ 2 9] .ret)))
theorem OG :ak Tryz.prog (Tryz.f203.body.getD .skip)=some LY:=by kernel_rfl
theorem PX(n:Int)(h0:1≤n)(h1:n≤5):bC Tryz.prog 203 [li n] (fun r os'=>(∃s:ByteArray,s.size≤2∧r= .c false [.raw (.string s)])∧os'= []):=by
 refine dS (fn:=Tryz.f203) (r:= .tmp 2) (hc:=OG) (h:= ?_);unfold LY;refine zb_ ?_;change AWP _ _ _ (st0 10 _);refine sS trivial ?_;have c1:=tK n 1 5;have hi:inR n 1 5=true:=by simp[inR,h0,h1]
 rw[hi]at c1;have hn:n=1∨n=2∨n=3∨n=4∨n=5:=by omega
 rcases hn with rfl|rfl|rfl|rfl|rfl
 all_goals(repeat' (first|((with_reducible refine iC ?_);intro K hK)|((with_reducible refine hK _ ?_);clear hK K)|(with_reducible refine fC ?_ ?_)|((with_reducible refine oK ?_);first|refine bT (hc:=c1) (h:= ?_))|((with_reducible refine jg ?_);refine ss @tns ?_)|refine nv ?_|(with_reducible (refine cS rfl ?_ ?_)<;>(intro hb hb';try(exfalso;omega)))|(exact GExpr.el _)|exact wG|exact jm))
 all_goals first
  |exact bW [⟨#[]⟩,⟨#[43]⟩,⟨#[45]⟩,⟨#[42]⟩,⟨#[60]⟩,⟨#[61,61]⟩]
  |(exact bQ rfl rfl ⟨⟨_,by decide,rfl⟩,rfl⟩)
def nK(e:GExpr):Prop:=bC Tryz.prog 171 [e.toD] (fun r os'=>(∃s:ByteArray,s.size≤iR e∧r= .c false [.raw (.string s)])∧os'= [])
def ado :IC:=(zd_ [zz_ 2 (.box (.t 0)),zz_ 4 (.mov (.k (.string ⟨#[]⟩)))] (zd_ [zr_ 6 4 2,zq_ 7 171 6,zw_ 5 7] (.seq (zd_ [zr_ 8 4 2,zq_ 9 201 8,zw_ 10 1,zl_ 11 .lss 9 10] (.cond (.t 11) (zd_ [zw_ 12 5,zz_ 13 (.bin .add (.k (.string ⟨#[40]⟩)) (.t 12)),zz_ 14 (.bin .add (.t 13) (.k (.string ⟨#[41]⟩))),zw_ 4 14] .ret) .skip)) (zd_ [zw_ 15 5,zw_ 4 15] .ret))))
theorem aau :ak Tryz.prog (Tryz.f202.body.getD .skip)=some ado:=by kernel_rfl
theorem YU(e:GExpr)(m:Int)(hw:iR e≤100000000)(hI:nK e):bC Tryz.prog 202 [e.toD,li m] (fun r os'=>(∃s:ByteArray,s.size≤iR e+2∧r= .c false [.raw (.string s)])∧os'= []):=by
 refine dS (fn:=Tryz.f202) (r:= .tmp 4) (hc:=aau) (h:= ?_);unfold ado;refine zb_ ?_;change AWP _ _ _ (st0 16 _);refine sS trivial ?_;unfold nK at hI
 repeat' (first|(refine rg_ ?_;intro K hK)|(refine hq_ ?_;clear hK K)|refine ca_ ?_ ?_|(refine cg_ ?_;first|(refine bn (h:=hI) (hK:= ?_);rintro _ _ ⟨⟨s,hs,rfl⟩,rfl⟩)|(refine bn (h:=(Yc e)) (hK:= ?_);rintro _ _ ⟨⟨lv,hl0,hl1,rfl⟩,rfl⟩))|refine sz_ (aiX @su @sD) ?_|refine nv ?_|(refine c2_ ?_ ?_<;>(intro hb hb';try(exfalso;omega)))|(exact GExpr.el _)|exact bq_|fail)
 all_goals exact bQ rfl rfl ⟨⟨_,by first|omega|(simp only[ByteArray.size_append,szD,a_,b_,c_];omega),rfl⟩,rfl⟩
def SA :IC:=(zd_ [zz_ 2 (.mov (.k (.string ⟨#[]⟩)))] (zd_ [zz_ 5 (.brow true 9 1 0 false []),zw_ 3 5] (.seq (zd_ [zk_ 4 0] (.block 0 (.loop (.seq (zd_ [zw_ 6 4,zw_ 7 0,zf_ 8 false 7,zl_ 9 .lss 6 8] (.cond (.t 9) .skip (.exit 0))) (.seq (.block 1 (.reg false [zw_ 12 3,zw_ 13 0,zw_ 14 4,ze_ 15 4 13 14,zr_ 16 4 15,zq_ 17 171 16,zz_ 18 (.brow false 9 1 1 false [(.t 17)]),zz_ 19 (.app 9 1 (.t 12) (.t 18)),zw_ 3 19])) (.reg false [zw_ 10 4,zm_ 11 .add 10 1,zw_ 4 11])))))) (zd_ [zw_ 20 3,zz_ 21 (.call 130 [(.t 20),(.k (.string ⟨#[44,32]⟩))]),zw_ 2 21] .ret))))
theorem Sz :ak Tryz.prog (Tryz.f200.body.getD .skip)=some SA:=by kernel_rfl
theorem afS(q:List GExpr)(hw:fK q≤100000000)(hq:q.length≤1048576)(hI:∀e∈q,nK e):bC Tryz.prog 200 [.sl (q.map GExpr.toD)] (fun r os'=>(∃s:ByteArray,s.size≤fK q+2*q.length∧r= .c false [.raw (.string s)])∧os'= []):=by
 refine dS (fn:=Tryz.f200) (r:= .tmp 2) (hc:=Sz) (h:= ?_);unfold SA;refine zb_ ?_;change AWP _ _ _ (st0 22 _);refine sS trivial ?_
 repeat' (first|(refine rg_ ?_;intro K hK)|(refine hq_ ?_;clear hK K)|refine ca_ ?_ ?_|refine sz_ trivial ?_|refine nv ?_|(refine c2_ ?_ ?_<;>(intro hb hb';try(exfalso;omega)))|(exact GExpr.el _)|exact bq_|fail)
 refine aQ (X:=Nat×Nat×List ByteArray) (fun z=> [.k,.d,.d,.v (.c false [.own 0 z.2.1]),.v (.c false [.raw (.int .i64 ((z.1:Nat)))])]) (fun z=> [⟨z.2.2.map ls,9,1,z.2.1,true⟩]) (fun _ _=> []) (fun z=>z.1≤q.length∧z.2.2.length=z.1∧bsz z.2.2≤fK (q.take z.1)) (fun z=>q.length - z.1) (0,0,[]) ⟨f_ _,rfl,f_ _⟩ ?_ ?_
 ·simp[aG,aU,aC,aF,AV.fits,AC.fits,FB,aB]
 ·rintro⟨k,v,l⟩ ⟨hk,hl,hz⟩;simp only at hk hl hz;simp only[FB,aB];by_cases hlt:k<q.length
  ·have hT:decide ((k:Int)<(q.length:Int))=true:=decide_eq_true (by omega);have hw1:IntKind.i64.wrap ((k:Int)+1)=((k+1:Nat):Int):=dJ (by omega);have hix:=bU GExpr.toD q hlt;have hI1:=hI _ (e_ hlt);unfold nK at hI1;have htk:q.take (k+1)=q.take k++ [q[k]]:=g_ hlt
   repeat' (first|(refine rg_ ?_;intro K hK)|(refine hq_ ?_;clear hK K)|refine ca_ ?_ ?_|(refine cg_ ?_;first|(refine bn (h:=hI1) (hK:= ?_);rintro _ _ ⟨⟨s,hs,rfl⟩,rfl⟩))|refine sz_ (a3_ hT hw1 hix) ?_|refine nv ?_|(refine c2_ ?_ ?_<;>(intro hb hb';try(exfalso;omega)))|(exact GExpr.el _)|exact bq_|fail)
   all_goals first
    |omega
    |(simp only[m_];omega)
    | (refine aP (k+1,v+1,l++ [s]) ?_ ⟨by simp only;omega,by simp[hl],by simp only;rw[GK,htk,Jy];simp only[bsz,fK];omega⟩ (show q.length - (k+1)<q.length - k by omega)
       simp[aG,aU,aC,aF,AV.fits,AC.fits,FB,aB,ls])
  ·have hT:decide ((k:Int)<(q.length:Int))=false:=decide_eq_false (by omega);have hkq:q.take k=q:=List.take_of_length_le (by omega);rw[hkq]at hz;have hb2:=LV l ⟨#[44,32]⟩;have hb3:(⟨#[44,32]⟩:ByteArray).size=2:=rfl;rw[hb3]at hb2;have hJ:=BZ l ⟨#[44,32]⟩ (by have:=yS l ⟨#[44,32]⟩ l.length (o_ _);rw[l_,hb3]at this;omega) (by omega)
   repeat' (first|(refine rg_ ?_;intro K hK)|(refine hq_ ?_;clear hK K)|refine ca_ ?_ ?_|(refine cg_ ?_;first|refine cT_ hJ ?_)|refine sz_ hT ?_|refine nv ?_|(refine c2_ ?_ ?_<;>(intro hb hb';try(exfalso;omega)))|(exact GExpr.el _)|exact bq_|fail)
   exact bQ rfl rfl ⟨⟨_,by omega,rfl⟩,rfl⟩
def Sm :IC:=(zd_ [zz_ 1 (.box (.t 0)),zz_ 2 (.mov (.k (.string ⟨#[]⟩)))] (.seq (zd_ [zt_ 5 0 1,zs_ 6 1 5] (.block 0 (zd_ [zm_ 8 .eql 6 1,zw_ 7 8] (.cond (.t 7) (zd_ [zt_ 9 1 1,zs_ 10 1 9,zq_ 11 126 10,zw_ 2 11] .ret) (zd_ [zm_ 13 .eql 6 2,zw_ 12 13] (.cond (.t 12) (zd_ [zt_ 14 2 1,zs_ 15 1 14,zz_ 16 (.bin .add (.k (.string ⟨#[34]⟩)) (.t 15)),zz_ 17 (.bin .add (.t 16) (.k (.string ⟨#[34]⟩))),zw_ 2 17] .ret) (zd_ [zm_ 19 .eql 6 3,zw_ 18 19] (.cond (.t 18) (zd_ [zt_ 20 2 1,zs_ 21 1 20,zw_ 2 21] .ret) (zd_ [zm_ 23 .eql 6 4,zw_ 22 23] (.cond (.t 22) (zd_ [zt_ 24 3 1,zs_ 25 1 24,zq_ 26 200 25,zz_ 27 (.bin .add (.k (.string ⟨#[91]⟩)) (.t 26)),zz_ 28 (.bin .add (.t 27) (.k (.string ⟨#[93]⟩))),zw_ 2 28] .ret) (zd_ [zm_ 30 .eql 6 5,zw_ 29 30] (.cond (.t 29) (.seq (.regN true [] [zt_ 31 2 1,zs_ 32 1 31,zz_ 33 (.bin .add (.t 32) (.k (.string ⟨#[40]⟩))),zt_ 34 3 1,zs_ 35 1 34,zq_ 36 200 35,zl_ 37 .add 33 36,zz_ 38 (.bin .add (.t 37) (.k (.string ⟨#[41]⟩))),zw_ 2 38]) .ret) (zd_ [zm_ 40 .eql 6 7,zw_ 39 40] (.cond (.t 39) (.seq (.regN true [] [zt_ 41 2 1,zs_ 42 1 41,zz_ 43 (.bin .add (.k (.string ⟨#[108,101,116,32]⟩)) (.t 42)),zz_ 44 (.bin .add (.t 43) (.k (.string ⟨#[32,61,32]⟩))),zt_ 45 3 1,zs_ 46 1 45,zz_ 47 (.iad 4 (.t 46) (.k (.int .i64 0))),zr_ 48 4 47,zq_ 49 171 48,zl_ 50 .add 44 49,zz_ 51 (.bin .add (.t 50) (.k (.string ⟨#[32,105,110,32]⟩))),zt_ 52 3 1,zs_ 53 1 52,zz_ 54 (.iad 4 (.t 53) (.k (.int .i64 1))),zr_ 55 4 54,zq_ 56 171 55,zl_ 57 .add 51 56,zw_ 2 57]) .ret) (zd_ [zm_ 59 .eql 6 9,zw_ 58 59] (.cond (.t 58) (.seq (.regN true [] [zt_ 60 2 1,zs_ 61 1 60,zz_ 62 (.bin .add (.k (.string ⟨#[102,111,114,32]⟩)) (.t 61)),zz_ 63 (.bin .add (.t 62) (.k (.string ⟨#[32,105,110,32]⟩))),zt_ 64 3 1,zs_ 65 1 64,zz_ 66 (.iad 4 (.t 65) (.k (.int .i64 0))),zr_ 67 4 66,zq_ 68 171 67,zl_ 69 .add 63 68,zz_ 70 (.bin .add (.t 69) (.k (.string ⟨#[32,100,111,32]⟩))),zt_ 71 3 1,zs_ 72 1 71,zz_ 73 (.iad 4 (.t 72) (.k (.int .i64 1))),zr_ 74 4 73,zq_ 75 171 74,zl_ 76 .add 70 75,zw_ 2 76]) .ret) (zd_ [zm_ 78 .eql 6 8,zw_ 77 78] (.cond (.t 77) (.seq (.regN true [] [zt_ 79 3 1,zs_ 80 1 79,zz_ 81 (.iad 4 (.t 80) (.k (.int .i64 0))),zr_ 82 4 81,zq_ 83 171 82,zz_ 84 (.bin .add (.k (.string ⟨#[105,102,32]⟩)) (.t 83)),zz_ 85 (.bin .add (.t 84) (.k (.string ⟨#[32,116,104,101,110,32]⟩))),zt_ 86 3 1,zs_ 87 1 86,zz_ 88 (.iad 4 (.t 87) (.k (.int .i64 1))),zr_ 89 4 88,zq_ 90 171 89,zl_ 91 .add 85 90,zz_ 92 (.bin .add (.t 91) (.k (.string ⟨#[32,101,108,115,101,32]⟩))),zt_ 93 3 1,zs_ 94 1 93,zz_ 95 (.iad 4 (.t 94) (.k (.int .i64 2))),zr_ 96 4 95,zq_ 97 171 96,zl_ 98 .add 92 97,zw_ 2 98]) .ret) .skip)))))))))))))))))) (zd_ [zr_ 99 4 1,zq_ 100 201 99,zw_ 3 100] (zd_ [zw_ 101 3,zw_ 4 101] (.seq (zd_ [zw_ 102 3,zm_ 103 .eql 102 1] (.cond (.t 103) (.reg false [zk_ 4 2]) .skip)) (.seq (.regN true [] [zt_ 104 3 1,zs_ 105 1 104,zz_ 106 (.iad 4 (.t 105) (.k (.int .i64 0))),zr_ 107 4 106,zw_ 108 4,zp_ 109 202 107 108,zz_ 110 (.bin .add (.t 109) (.k (.string ⟨#[32]⟩))),zt_ 111 1 1,zs_ 112 1 111,zq_ 113 203 112,zl_ 114 .add 110 113,zz_ 115 (.bin .add (.t 114) (.k (.string ⟨#[32]⟩))),zt_ 116 3 1,zs_ 117 1 116,zz_ 118 (.iad 4 (.t 117) (.k (.int .i64 1))),zr_ 119 4 118,zw_ 120 3,zm_ 121 .add 120 1,zp_ 122 202 119 121,zl_ 123 .add 115 122,zw_ 2 123]) .ret))))))
theorem Sj :ak Tryz.prog (Tryz.f171.body.getD .skip)=some Sm:=by kernel_rfl
theorem afQ(e:GExpr)(hw:e.toD.wt≤1000000)(hn:jw e=true)(hI:∀y∈e.args,nK y):bC Tryz.prog 171 [e.toD] (fun r os'=>(∃s:ByteArray,s.size≤iR e∧r= .c false [.raw (.string s)])∧os'= []):=by
 refine dS (fn:=Tryz.f171) (r:= .tmp 2) (hc:=Sj) (h:= ?_);unfold Sm;refine zb_ ?_;change AWP _ _ _ (st0 124 _);refine sS trivial ?_;have hb:=adJ e;have hlen:=Gi e;have hbs:fK e.args≤iR e:=by omega
 have hbd:iR e≤100000000:=by unfold iR;omega
 have cl:=afS e.args (by omega) (by omega) hI;have cs:=Yc e;unfold nK at hI;have kk:∀j:Int,(e.kind==j)=decide (e.kind=j):=fun j=>by by_cases h:e.kind=j<;>simp[h]
 rcases Ve hn with⟨k,n0,n1⟩|k|k|k|k|⟨k,ha,n0,n1⟩|⟨k,ha⟩|⟨k,ha⟩|⟨k,ha⟩
 ·have f1:(e.kind==1)=true:=by rw[kk];exact decide_eq_true (by omega)
  have f2:(e.kind==2)=false:=za_ (by omega);have f3:(e.kind==3)=false:=za_ (by omega);have f4:(e.kind==4)=false:=za_ (by omega);have f5:(e.kind==5)=false:=za_ (by omega);have f6:(e.kind==6)=false:=za_ (by omega);have f7:(e.kind==7)=false:=za_ (by omega);have f8:(e.kind==8)=false:=za_ (by omega);have f9:(e.kind==9)=false:=za_ (by omega);have c1:=oD (n:=e.n) (by omega) (by omega);have hfl:=TM (n:=e.n) (by omega) (by omega)
  repeat' (first|(refine hq_ ?_;clear hK K)|refine ca_ ?_ ?_|(refine cg_ ?_;first|refine cT_ c1 ?_)|refine sz_ (a3_ f1 f2 (a9_ f3 f4 f5 f6 f7 f8 f9 @su @sD)) ?_|refine nv ?_|(refine rD ?_;intro K hK)|(refine c2_ ?_ ?_<;>(intro hb hb';try(exfalso;omega)))|(exact GExpr.el _)|exact bq_|fail)
  all_goals first
   |omega
   |(simp only[ByteArray.size_append,szD,a_,b_,c_];omega)
   |(exact bQ rfl rfl ⟨⟨_,by first|omega|(simp only[ByteArray.size_append,szD,a_,b_,c_];omega),rfl⟩,rfl⟩)
 ·have f1:(e.kind==1)=false:=za_ (by omega);have f2:(e.kind==2)=true:=by rw[kk];exact decide_eq_true (by omega)
  have f3:(e.kind==3)=false:=za_ (by omega);have f4:(e.kind==4)=false:=za_ (by omega);have f5:(e.kind==5)=false:=za_ (by omega);have f6:(e.kind==6)=false:=za_ (by omega);have f7:(e.kind==7)=false:=za_ (by omega);have f8:(e.kind==8)=false:=za_ (by omega);have f9:(e.kind==9)=false:=za_ (by omega)
  repeat' (first|(refine hq_ ?_;clear hK K)|refine ca_ ?_ ?_|refine sz_ (a3_ f1 f2 (a9_ f3 f4 f5 f6 f7 f8 f9 @su @sD)) ?_|refine nv ?_|(refine rD ?_;intro K hK)|(refine c2_ ?_ ?_<;>(intro hb hb';try(exfalso;omega)))|(exact GExpr.el _)|exact bq_|fail)
  all_goals first
   |omega
   |(simp only[ByteArray.size_append,szD,a_,b_,c_];omega)
   |(exact bQ rfl rfl ⟨⟨_,by first|omega|(simp only[ByteArray.size_append,szD,a_,b_,c_];omega),rfl⟩,rfl⟩)
 ·have f1:(e.kind==1)=false:=za_ (by omega);have f2:(e.kind==2)=false:=za_ (by omega);have f3:(e.kind==3)=true:=by rw[kk];exact decide_eq_true (by omega)
  have f4:(e.kind==4)=false:=za_ (by omega);have f5:(e.kind==5)=false:=za_ (by omega);have f6:(e.kind==6)=false:=za_ (by omega);have f7:(e.kind==7)=false:=za_ (by omega);have f8:(e.kind==8)=false:=za_ (by omega);have f9:(e.kind==9)=false:=za_ (by omega)
  repeat' (first|(refine hq_ ?_;clear hK K)|refine ca_ ?_ ?_|refine sz_ (a3_ f1 f2 (a9_ f3 f4 f5 f6 f7 f8 f9 @su @sD)) ?_|refine nv ?_|(refine rD ?_;intro K hK)|(refine c2_ ?_ ?_<;>(intro hb hb';try(exfalso;omega)))|(exact GExpr.el _)|exact bq_|fail)
  all_goals first
   |omega
   |(simp only[ByteArray.size_append,szD,a_,b_,c_];omega)
   |(exact bQ rfl rfl ⟨⟨_,by first|omega|(simp only[ByteArray.size_append,szD,a_,b_,c_];omega),rfl⟩,rfl⟩)
 ·have f1:(e.kind==1)=false:=za_ (by omega);have f2:(e.kind==2)=false:=za_ (by omega);have f3:(e.kind==3)=false:=za_ (by omega);have f4:(e.kind==4)=true:=by rw[kk];exact decide_eq_true (by omega)
  have f5:(e.kind==5)=false:=za_ (by omega);have f6:(e.kind==6)=false:=za_ (by omega);have f7:(e.kind==7)=false:=za_ (by omega);have f8:(e.kind==8)=false:=za_ (by omega);have f9:(e.kind==9)=false:=za_ (by omega)
  repeat' (first|(refine hq_ ?_;clear hK K)|refine ca_ ?_ ?_|(refine cg_ ?_;first|(refine bn (h:=cl) (hK:= ?_);rintro _ _ ⟨⟨ll,hll,rfl⟩,rfl⟩))|refine sz_ (a3_ f1 f2 (a9_ f3 f4 f5 f6 f7 f8 f9 @su @sD)) ?_|refine nv ?_|(refine rD ?_;intro K hK)|(refine c2_ ?_ ?_<;>(intro hb hb';try(exfalso;omega)))|(exact GExpr.el _)|exact bq_|fail)
  all_goals first
   |omega
   |(simp only[ByteArray.size_append,szD,a_,b_,c_];omega)
   |(exact bQ rfl rfl ⟨⟨_,by first|omega|(simp only[ByteArray.size_append,szD,a_,b_,c_];omega),rfl⟩,rfl⟩)
 ·have f1:(e.kind==1)=false:=za_ (by omega);have f2:(e.kind==2)=false:=za_ (by omega);have f3:(e.kind==3)=false:=za_ (by omega);have f4:(e.kind==4)=false:=za_ (by omega);have f5:(e.kind==5)=true:=by rw[kk];exact decide_eq_true (by omega)
  have f6:(e.kind==6)=false:=za_ (by omega);have f7:(e.kind==7)=false:=za_ (by omega);have f8:(e.kind==8)=false:=za_ (by omega);have f9:(e.kind==9)=false:=za_ (by omega)
  repeat' (first|(refine rg_ ?_;intro K hK)|((first|(with_reducible refine aA 99 false bg ?_)|(refine aA 99 false (by simp[dU,St.ev]) ?_));intro K hK)|refine nN ?_|(refine hq_ ?_;clear hK K)|refine ca_ ?_ ?_|(refine cg_ ?_;first|(refine bn (h:=cl) (hK:= ?_);rintro _ _ ⟨⟨ll,hll,rfl⟩,rfl⟩))|((with_reducible refine fB ?_);first|(refine wY (h:=cl) (hne:=⟨_,[],⟨⟨⟨#[]⟩,f_ _,rfl⟩,rfl⟩,rfl⟩) (hr:= ?_);rintro _ _ ⟨⟨ll,hll,rfl⟩,rfl⟩))|refine sz_ (a3_ f1 f2 (a9_ f3 f4 f5 f6 f7 f8 f9 @su @sD)) ?_|refine nv ?_|(refine c2_ ?_ ?_<;>(intro hb hb';try(exfalso;omega)))|(exact GExpr.el _)|exact bq_|fail)
  all_goals first
   |omega
   |(simp only[ByteArray.size_append,szD,a_,b_,c_];omega)
   |(exact bQ rfl rfl ⟨⟨_,by first|omega|(simp only[ByteArray.size_append,szD,a_,b_,c_];omega),rfl⟩,rfl⟩)
 ·have f1:(e.kind==1)=false:=za_ (by omega);have f2:(e.kind==2)=false:=za_ (by omega);have f3:(e.kind==3)=false:=za_ (by omega);have f4:(e.kind==4)=false:=za_ (by omega);have f5:(e.kind==5)=false:=za_ (by omega);have f6:(e.kind==6)=true:=by rw[kk];exact decide_eq_true (by omega)
  have f7:(e.kind==7)=false:=za_ (by omega);have f8:(e.kind==8)=false:=za_ (by omega);have f9:(e.kind==9)=false:=za_ (by omega);have h0:0<e.args.length:=by omega
  have h1:1<e.args.length:=by omega
  have i0:idx (e.args.map GExpr.toD) (some 0)=some (e.args[0]).toD:=bU GExpr.toD e.args h0;have i1:idx (e.args.map GExpr.toD) (some 1)=some (e.args[1]).toD:=bU GExpr.toD e.args h1;have hx0:=hI _ (e_ h0);have hx1:=hI _ (e_ h1);have hsum:iR e.args[0]+iR e.args[1]≤fK e.args:=by
   have e1:e.args=e.args[0]::e.args[1]::e.args.drop 2:=by rw[← d_,← d_];rfl
   have e2:fK e.args=iR e.args[0]+(iR e.args[1]+fK (e.args.drop 2)):=by(conv=>lhs;rw[e1]);simp only[fK]
   omega
  repeat' (first|(refine rg_ ?_;intro K hK)|((first|(with_reducible refine aA 99 false bg ?_)|(refine aA 99 false (by simp[dU,St.ev]) ?_));intro K hK)|refine nN ?_|(refine hq_ ?_;clear hK K)|refine ca_ ?_ ?_|(refine cg_ ?_;first|(refine bn (h:=cs) (hK:= ?_);rintro _ _ ⟨⟨lv,hl0,hl1,rfl⟩,rfl⟩)|(refine bn (h:=(YU e.args[0] _ (by omega) hx0)) (hK:= ?_);rintro _ _ ⟨⟨s0,hs0,rfl⟩,rfl⟩)|(refine bn (h:=(YU e.args[1] _ (by omega) hx1)) (hK:= ?_);rintro _ _ ⟨⟨s1,hs1,rfl⟩,rfl⟩)|(refine bn (h:=(PX e.n n0 n1)) (hK:= ?_);rintro _ _ ⟨⟨sy,hsy,rfl⟩,rfl⟩))|((with_reducible refine fB ?_);first|(refine wY (h:=(YU e.args[0] _ (by omega) hx0)) (hne:=⟨_,[],⟨⟨⟨#[]⟩,f_ _,rfl⟩,rfl⟩,rfl⟩) (hr:= ?_);rintro _ _ ⟨⟨s0,hs0,rfl⟩,rfl⟩)|(refine wY (h:=(YU e.args[1] _ (by omega) hx1)) (hne:=⟨_,[],⟨⟨⟨#[]⟩,f_ _,rfl⟩,rfl⟩,rfl⟩) (hr:= ?_);rintro _ _ ⟨⟨s1,hs1,rfl⟩,rfl⟩)|(refine wY (h:=(PX e.n n0 n1)) (hne:=⟨_,[],⟨⟨⟨#[]⟩,f_ _,rfl⟩,rfl⟩,rfl⟩) (hr:= ?_);rintro _ _ ⟨⟨sy,hsy,rfl⟩,rfl⟩))|refine sz_ (a5_ f1 f2 f3 f4 (a9_ f5 f6 f7 f8 f9 @su @sD i0 i1)) ?_|refine nv ?_|(refine c2_ ?_ ?_<;>(intro hb hb';try(exfalso;omega)))|(exact GExpr.el _)|exact bq_|fail)
  all_goals first
   |omega
   |(simp only[ByteArray.size_append,szD,a_,b_,c_];omega)
   |(exact bQ rfl rfl ⟨⟨_,by first|omega|(simp only[ByteArray.size_append,szD,a_,b_,c_];omega),rfl⟩,rfl⟩)
 ·have f1:(e.kind==1)=false:=za_ (by omega);have f2:(e.kind==2)=false:=za_ (by omega);have f3:(e.kind==3)=false:=za_ (by omega);have f4:(e.kind==4)=false:=za_ (by omega);have f5:(e.kind==5)=false:=za_ (by omega);have f6:(e.kind==6)=false:=za_ (by omega);have f7:(e.kind==7)=true:=by rw[kk];exact decide_eq_true (by omega)
  have f8:(e.kind==8)=false:=za_ (by omega);have f9:(e.kind==9)=false:=za_ (by omega);have h0:0<e.args.length:=by omega
  have h1:1<e.args.length:=by omega
  have i0:idx (e.args.map GExpr.toD) (some 0)=some (e.args[0]).toD:=bU GExpr.toD e.args h0;have i1:idx (e.args.map GExpr.toD) (some 1)=some (e.args[1]).toD:=bU GExpr.toD e.args h1;have hx0:=hI _ (e_ h0);have hx1:=hI _ (e_ h1);have hsum:iR e.args[0]+iR e.args[1]≤fK e.args:=by
   have e1:e.args=e.args[0]::e.args[1]::e.args.drop 2:=by rw[← d_,← d_];rfl
   have e2:fK e.args=iR e.args[0]+(iR e.args[1]+fK (e.args.drop 2)):=by(conv=>lhs;rw[e1]);simp only[fK]
   omega
  repeat' (first|(refine rg_ ?_;intro K hK)|((first|(with_reducible refine aA 99 false bg ?_)|(refine aA 99 false (by simp[dU,St.ev]) ?_));intro K hK)|refine nN ?_|(refine hq_ ?_;clear hK K)|refine ca_ ?_ ?_|(refine cg_ ?_;first|(refine bn (h:=hx0) (hK:= ?_);rintro _ _ ⟨⟨s0,hs0,rfl⟩,rfl⟩)|(refine bn (h:=hx1) (hK:= ?_);rintro _ _ ⟨⟨s1,hs1,rfl⟩,rfl⟩))|((with_reducible refine fB ?_);first|(refine wY (h:=hx0) (hne:=⟨_,[],⟨⟨⟨#[]⟩,f_ _,rfl⟩,rfl⟩,rfl⟩) (hr:= ?_);rintro _ _ ⟨⟨s0,hs0,rfl⟩,rfl⟩)|(refine wY (h:=hx1) (hne:=⟨_,[],⟨⟨⟨#[]⟩,f_ _,rfl⟩,rfl⟩,rfl⟩) (hr:= ?_);rintro _ _ ⟨⟨s1,hs1,rfl⟩,rfl⟩))|refine sz_ (a5_ f1 f2 f3 f4 (a9_ f5 f6 f7 f8 f9 @su @sD i0 i1)) ?_|refine nv ?_|(refine c2_ ?_ ?_<;>(intro hb hb';try(exfalso;omega)))|(exact GExpr.el _)|exact bq_|fail)
  all_goals first
   |omega
   |(simp only[ByteArray.size_append,szD,a_,b_,c_];omega)
   |(exact bQ rfl rfl ⟨⟨_,by first|omega|(simp only[ByteArray.size_append,szD,a_,b_,c_];omega),rfl⟩,rfl⟩)
 ·have f1:(e.kind==1)=false:=za_ (by omega);have f2:(e.kind==2)=false:=za_ (by omega);have f3:(e.kind==3)=false:=za_ (by omega);have f4:(e.kind==4)=false:=za_ (by omega);have f5:(e.kind==5)=false:=za_ (by omega);have f6:(e.kind==6)=false:=za_ (by omega);have f7:(e.kind==7)=false:=za_ (by omega);have f8:(e.kind==8)=true:=by rw[kk];exact decide_eq_true (by omega)
  have f9:(e.kind==9)=false:=za_ (by omega);have h0:0<e.args.length:=by omega
  have h1:1<e.args.length:=by omega
  have i0:idx (e.args.map GExpr.toD) (some 0)=some (e.args[0]).toD:=bU GExpr.toD e.args h0;have i1:idx (e.args.map GExpr.toD) (some 1)=some (e.args[1]).toD:=bU GExpr.toD e.args h1;have hx0:=hI _ (e_ h0);have hx1:=hI _ (e_ h1);have h2:2<e.args.length:=by omega
  have i2:idx (e.args.map GExpr.toD) (some 2)=some (e.args[2]).toD:=bU GExpr.toD e.args h2;have hx2:=hI _ (e_ h2);have hsum:iR e.args[0]+iR e.args[1]+iR e.args[2]≤fK e.args:=by
   have e1:e.args=e.args[0]::e.args[1]::e.args[2]::e.args.drop 3:=by rw[← d_,← d_,← d_];rfl
   have e2:fK e.args=iR e.args[0]+(iR e.args[1]+(iR e.args[2]+fK (e.args.drop 3))):=by(conv=>lhs;rw[e1]);simp only[fK]
   omega
  repeat' (first|(refine rg_ ?_;intro K hK)|((first|(with_reducible refine aA 99 false bg ?_)|(refine aA 99 false (by simp[dU,St.ev]) ?_));intro K hK)|refine nN ?_|(refine hq_ ?_;clear hK K)|refine ca_ ?_ ?_|(refine cg_ ?_;first|(refine bn (h:=hx0) (hK:= ?_);rintro _ _ ⟨⟨s0,hs0,rfl⟩,rfl⟩)|(refine bn (h:=hx1) (hK:= ?_);rintro _ _ ⟨⟨s1,hs1,rfl⟩,rfl⟩)|(refine bn (h:=hx2) (hK:= ?_);rintro _ _ ⟨⟨s2,hs2,rfl⟩,rfl⟩))|((with_reducible refine fB ?_);first|(refine wY (h:=hx0) (hne:=⟨_,[],⟨⟨⟨#[]⟩,f_ _,rfl⟩,rfl⟩,rfl⟩) (hr:= ?_);rintro _ _ ⟨⟨s0,hs0,rfl⟩,rfl⟩)|(refine wY (h:=hx1) (hne:=⟨_,[],⟨⟨⟨#[]⟩,f_ _,rfl⟩,rfl⟩,rfl⟩) (hr:= ?_);rintro _ _ ⟨⟨s1,hs1,rfl⟩,rfl⟩)|(refine wY (h:=hx2) (hne:=⟨_,[],⟨⟨⟨#[]⟩,f_ _,rfl⟩,rfl⟩,rfl⟩) (hr:= ?_);rintro _ _ ⟨⟨s2,hs2,rfl⟩,rfl⟩))|refine sz_ (a6_ f1 f2 f3 f4 f5 (a9_ f6 f7 f8 f9 @su @sD i0 i1 i2)) ?_|refine nv ?_|(refine c2_ ?_ ?_<;>(intro hb hb';try(exfalso;omega)))|(exact GExpr.el _)|exact bq_|fail)
  all_goals first
   |omega
   |(simp only[ByteArray.size_append,szD,a_,b_,c_];omega)
   |(exact bQ rfl rfl ⟨⟨_,by first|omega|(simp only[ByteArray.size_append,szD,a_,b_,c_];omega),rfl⟩,rfl⟩)
 ·have f1:(e.kind==1)=false:=za_ (by omega);have f2:(e.kind==2)=false:=za_ (by omega);have f3:(e.kind==3)=false:=za_ (by omega);have f4:(e.kind==4)=false:=za_ (by omega);have f5:(e.kind==5)=false:=za_ (by omega);have f6:(e.kind==6)=false:=za_ (by omega);have f7:(e.kind==7)=false:=za_ (by omega);have f8:(e.kind==8)=false:=za_ (by omega);have f9:(e.kind==9)=true:=by rw[kk];exact decide_eq_true (by omega)
  have h0:0<e.args.length:=by omega
  have h1:1<e.args.length:=by omega
  have i0:idx (e.args.map GExpr.toD) (some 0)=some (e.args[0]).toD:=bU GExpr.toD e.args h0;have i1:idx (e.args.map GExpr.toD) (some 1)=some (e.args[1]).toD:=bU GExpr.toD e.args h1;have hx0:=hI _ (e_ h0);have hx1:=hI _ (e_ h1);have hsum:iR e.args[0]+iR e.args[1]≤fK e.args:=by
   have e1:e.args=e.args[0]::e.args[1]::e.args.drop 2:=by rw[← d_,← d_];rfl
   have e2:fK e.args=iR e.args[0]+(iR e.args[1]+fK (e.args.drop 2)):=by(conv=>lhs;rw[e1]);simp only[fK]
   omega
  repeat' (first|(refine rg_ ?_;intro K hK)|((first|(with_reducible refine aA 99 false bg ?_)|(refine aA 99 false (by simp[dU,St.ev]) ?_));intro K hK)|refine nN ?_|(refine hq_ ?_;clear hK K)|refine ca_ ?_ ?_|(refine cg_ ?_;first|(refine bn (h:=hx0) (hK:= ?_);rintro _ _ ⟨⟨s0,hs0,rfl⟩,rfl⟩)|(refine bn (h:=hx1) (hK:= ?_);rintro _ _ ⟨⟨s1,hs1,rfl⟩,rfl⟩))|((with_reducible refine fB ?_);first|(refine wY (h:=hx0) (hne:=⟨_,[],⟨⟨⟨#[]⟩,f_ _,rfl⟩,rfl⟩,rfl⟩) (hr:= ?_);rintro _ _ ⟨⟨s0,hs0,rfl⟩,rfl⟩)|(refine wY (h:=hx1) (hne:=⟨_,[],⟨⟨⟨#[]⟩,f_ _,rfl⟩,rfl⟩,rfl⟩) (hr:= ?_);rintro _ _ ⟨⟨s1,hs1,rfl⟩,rfl⟩))|refine sz_ (a5_ f1 f2 f3 f4 (a9_ f5 f6 f7 f8 f9 @su @sD i0 i1)) ?_|refine nv ?_|(refine c2_ ?_ ?_<;>(intro hb hb';try(exfalso;omega)))|(exact GExpr.el _)|exact bq_|fail)
  all_goals first
   |omega
   |(simp only[ByteArray.size_append,szD,a_,b_,c_];omega)
   |(exact bQ rfl rfl ⟨⟨_,by first|omega|(simp only[ByteArray.size_append,szD,a_,b_,c_];omega),rfl⟩,rfl⟩)
theorem aaJ :∀(n:Nat) (e:GExpr),e.toD.wt<n→e.toD.wt≤1000000→e.allN=true→nK e:=by
 intro n
 induction n with
 |zero=>intro e h;omega
 |succ n ih=>intro e h hw ha;exact afQ e hw (aa1 ha) (fun y hy=>ih y (by have:=sO hy;omega) (by have:=sO hy;omega) (aeN ha hy))
def SC :IC:=(zd_ [zz_ 1 (.box (.t 0)),zz_ 2 (.mov (.k (.string ⟨#[]⟩)))] (.seq (zd_ [zr_ 3 4 1,zq_ 4 137 3,zz_ 5 (.not (.t 4))] (.cond (.t 5) (zd_ [zz_ 2 (.mov (.k (.string ⟨#[]⟩)))] .ret) .skip)) (zd_ [zr_ 6 4 1,zq_ 7 171 6,zw_ 2 7] .ret)))
theorem SB :ak Tryz.prog (Tryz.f128.body.getD .skip)=some SC:=by kernel_rfl
theorem af4(e:GExpr)(hw:e.toD.wt≤1000000):bC Tryz.prog 128 [e.toD] (fun r os'=>(∃s:ByteArray,s.size≤iR e∧r= .c false [.raw (.string s)])∧os'= []):=by
 refine dS (fn:=Tryz.f128) (r:= .tmp 2) (hc:=SB) (h:= ?_);unfold SC;refine zb_ ?_;change AWP _ _ _ (st0 8 _);refine sS trivial ?_;have c1:=xk e (by omega);cases hv:NP e
 ·rw[hv]at c1
  repeat' (first|(refine rg_ ?_;intro K hK)|(refine hq_ ?_;clear hK K)|refine ca_ ?_ ?_|(refine cg_ ?_;first|refine cT_ c1 ?_)|refine sz_ trivial ?_|refine nv ?_|(refine c2_ ?_ ?_<;>(intro hb hb';try(exfalso;omega)))|(exact GExpr.el _)|exact bq_|fail)
  exact bQ rfl rfl ⟨⟨_,f_ _,rfl⟩,rfl⟩
 ·rw[hv]at c1;have ha:e.allN=true:=by unfold NP at hv;simp only[h_]at hv;exact hv.2
  have c2:=aaJ _ e (Nat.lt_succ_self _) hw ha;unfold nK at c2
  repeat' (first|(refine rg_ ?_;intro K hK)|(refine hq_ ?_;clear hK K)|refine ca_ ?_ ?_|(refine cg_ ?_;first|refine cT_ c1 ?_|(refine bn (h:=c2) (hK:= ?_);rintro _ _ ⟨⟨s,hs,rfl⟩,rfl⟩))|refine sz_ trivial ?_|refine nv ?_|(refine c2_ ?_ ?_<;>(intro hb hb';try(exfalso;omega)))|(exact GExpr.el _)|exact bq_|fail)
  exact bQ rfl rfl ⟨⟨_,hs,rfl⟩,rfl⟩
end Go.Proofs.YtfjmoicellpnhaaGreat
