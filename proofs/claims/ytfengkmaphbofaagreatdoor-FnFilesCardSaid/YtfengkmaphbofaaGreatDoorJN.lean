/-
  Texts joined: Fex.
-/
import Derived.Test.YtfengkmaphbofaaGreatDoorJM
import Derived.Test.YtfengkmaphbofaaGreatDoorJG
import Derived.Test.YtfengkmaphbofaaGreatDoorJE
set_option maxHeartbeats 16000000
set_option maxRecDepth 8000
set_option linter.unusedSimpArgs false
set_option linter.unusedVariables false
namespace Go.Proofs.YtfengkmaphbofaaGreatDoor
open Go.RowKit
open List renaming size_toArray→a_,length_cons→b_,length_nil→c_,drop_eq_getElem_cons→d_,getElem_mem→e_,take_succ_eq_append_getElem→g_,length_append→j_,cons_append→k_,take_length→l_,length_map→m_
open Nat renaming zero_le→f_,add_assoc→n_,le_refl→o_
open Bool renaming and_eq_true→h_
open Int renaming toNat→i_
attribute [local irreducible] sw sd sn
theorem tns :i_ 1=1∧i_ 2=2∧i_ 3=3∧i_ 4=4∧i_ 5=5:=⟨rfl,rfl,rfl,rfl,rfl⟩
theorem oN{n:Nat}(h:n≤9223372036854775807):(((n:Nat):Int) > IntKind.i64.max)=False:=by
 have e3:IntKind.i64.max=9223372036854775807:=by decide
 rw[e3];simp;omega
theorem pG{a b:Nat}(h:a+b≤9223372036854775807):((9223372036854775807:Int)<(a:Int)+(b:Int))=False:=by
 simp;omega
def bsz :List ByteArray→Nat
 | []=>0
 |s::l=>s.size+bsz l
theorem BJ :∀(a b:List ByteArray),bsz (a++b)=bsz a+bsz b
 | [],b=>by simp[bsz]
 |s::a,b=>by simp only[k_,bsz];rw[BJ a b,n_]
theorem vI(l:List ByteArray)(b:ByteArray):∀k,k≤l.length→(lT l b k).length≤bsz (l.take k)+k*b.size
 |0,_=>by simp[lT]
 | k+1,h=>by
   have ih:=vI l b k (by omega);rw[Dc (by omega),j_,j_,g_ (by omega),BJ,Nat.succ_mul];have h1:(if 0<k then b.data.toList else []).length≤b.size:=by split<;>simp
   have h2:(l[k]).data.toList.length=(l[k]).size:=by simp
   have h3:bsz [l[k]]=(l[k]).size:=by simp[bsz]
   omega
theorem Gf(l:List ByteArray)(b:ByteArray):(jA l b).size≤bsz l+l.length*b.size:=by
 have:=vI l b l.length (o_ _);rw[l_]at this;have h2:(jA l b).size=(lT l b l.length).length:=by simp[jA,ByteArray.size]
 rw[h2];exact this
theorem jf{P:Program}{t:Nat}{v:Value}{st:St}{post:AV→List Own→Prop}(h1:st.fr.getD t .any= .c false [.raw v])(hp:iZ P (.tmp t) false 1=true)(hq:post (.c false [.raw v]) []):qX (VX P (.tmp t) post) .ret st:=
 ⟨false,_,[],[],hq,by simp[AC.out],by simp,trivial,hp,_,h1,by simp[qC,I7]⟩
def jD(e:GExpr):Nat:=32+40*e.toD.wt
def iJ :List GExpr→Nat
 | []=>0
 |e::l=>jD e+iJ l
theorem Ed :∀(a b:List GExpr),iJ (a++b)=iJ a+iJ b
 | [],b=>by simp[iJ]
 |s::a,b=>by simp only[k_,iJ];rw[Ed a b,n_]
theorem Gt :∀(l:List GExpr),iJ l=32*l.length+40*D.wts (l.map GExpr.toD)
 | []=>by simp[iJ,D.wts]
 |e::l=>by rw[iJ,Gt l,List.map_cons,D.wts,b_,jD];omega
theorem UO(e:GExpr):jD e=32+40*e.text.size+8*e.args.length+iJ e.args:=by
 rw[Gt,jD,GExpr.oD e,m_];omega
theorem VN{e y:GExpr}(h:e.allN=true)(hy:y∈e.args):y.allN=true:=by
 rw[BM,h_,List.all_eq_true]at h;exact h.1 y hy
theorem Ru{e:GExpr}(h:e.allN=true):jP e=true:=by
 rw[BM,h_]at h;exact h.2
theorem Na{e:GExpr}(h:jP e=true):(e.kind=1∧0≤e.n∧e.n≤1000000000)∨e.kind=2∨e.kind=3∨e.kind=4∨e.kind=5∨(e.kind=6∧e.args.length=2∧1≤e.n∧e.n≤5)∨(e.kind=7∧e.args.length=2)∨(e.kind=8∧e.args.length=3)∨(e.kind=9∧e.args.length=2):=by
 unfold jP at h
 repeat' split at h
 all_goals first
  |(simp[inR]at h;omega)
  |omega
  |(simp at h)
def Kz :IC:=(zd_ [zz_ 1 (.box (.t 0)),zk_ 2 0] (.seq (zd_ [zt_ 3 0 1,zs_ 4 1 3] (.block 0 (.seq (zd_ [zm_ 6 .eql 4 7,zw_ 5 6] (.cond (.t 5) .skip (zd_ [zm_ 7 .eql 4 8,zw_ 5 7] (.cond (.t 5) .skip (.reg false [zm_ 8 .eql 4 9,zw_ 5 8]))))) (.cond (.t 5) (zd_ [zk_ 2 0] .ret) (zd_ [zm_ 10 .eql 4 6,zw_ 9 10] (.cond (.t 9) (zd_ [zt_ 11 1 1,zs_ 12 1 11] (.block 1 (.seq (zd_ [zm_ 14 .eql 12 4,zw_ 13 14] (.cond (.t 13) .skip (.reg false [zm_ 15 .eql 12 5,zw_ 13 15]))) (.cond (.t 13) (zd_ [zk_ 2 1] .ret) (.seq (zd_ [zm_ 17 .eql 12 1,zw_ 16 17] (.cond (.t 16) .skip (.reg false [zm_ 18 .eql 12 2,zw_ 16 18]))) (.cond (.t 16) (zd_ [zk_ 2 2] .ret) (zd_ [zm_ 20 .eql 12 3,zw_ 19 20] (.cond (.t 19) (zd_ [zk_ 2 3] .ret) .skip)))))))) .skip)))))) (zd_ [zk_ 2 4] .ret)))
theorem Ky :bg Tryz.prog (Tryz.f184.body.getD .skip)=some Kz:=by kernel_rfl
theorem O4(e:GExpr):iD Tryz.prog 184 [e.toD] (fun r os'=>(∃n:Int,0≤n∧n≤4∧r= .c false [.raw (.int .i64 n)])∧os'= []):=by
 refine lU (fn:=Tryz.f184) (r:= .tmp 2) (hc:=Ky) (h:= ?_);unfold Kz;refine zb_ ?_;change AWP _ _ _ (st0 21 _);refine sS trivial ?_;have kk:∀j:Int,(e.kind==j)=decide (e.kind=j):=fun j=>by by_cases h:e.kind=j<;>simp[h]
 have nn:∀j:Int,(e.n==j)=decide (e.n=j):=fun j=>by by_cases h:e.n=j<;>simp[h]
 repeat' (first|(refine rg_ ?_;intro K hK)|(refine hq_ ?_;clear hK K)|refine ca_ ?_ ?_|refine sz_ trivial ?_|refine nv ?_|(refine c2_ ?_ ?_<;>(intro hb hb';try(exfalso;omega)))|(exact GExpr.el _)|exact bq_|fail)
 all_goals exact jf rfl rfl ⟨⟨_,by decide,by decide,rfl⟩,rfl⟩
def Gh :IC:=(zd_ [zz_ 2 (.mov (.k (.string ⟨#[]⟩)))] (.seq (zd_ [zw_ 3 0,zz_ 4 (.call 62 [(.t 3),(.k (.int .i64 1)),(.k (.int .i64 5))]),zz_ 5 (.not (.t 4))] (.cond (.t 5) (zd_ [zz_ 2 (.mov (.k (.string ⟨#[63]⟩)))] .ret) .skip)) (zd_ [zz_ 6 (.brow true 9 1 6 false [(.k (.string ⟨#[]⟩)),(.k (.string ⟨#[43]⟩)),(.k (.string ⟨#[45]⟩)),(.k (.string ⟨#[42]⟩)),(.k (.string ⟨#[60]⟩)),(.k (.string ⟨#[61,61]⟩))]),zw_ 7 0,ze_ 8 1 6 7,zs_ 9 1 8,zw_ 2 9] .ret)))
theorem Iq :bg Tryz.prog (Tryz.f186.body.getD .skip)=some Gh:=by kernel_rfl
theorem Jg(n:Int)(h0:1≤n)(h1:n≤5):iD Tryz.prog 186 [li n] (fun r os'=>(∃s:ByteArray,s.size≤2∧r= .c false [.raw (.string s)])∧os'= []):=by
 refine lU (fn:=Tryz.f186) (r:= .tmp 2) (hc:=Iq) (h:= ?_);unfold Gh;refine zb_ ?_;change AWP _ _ _ (st0 10 _);refine sS trivial ?_;have c1:=uI n 1 5;have hi:inR n 1 5=true:=by simp[inR,h0,h1]
 rw[hi]at c1;have hn:n=1∨n=2∨n=3∨n=4∨n=5:=by omega
 rcases hn with rfl|rfl|rfl|rfl|rfl
 all_goals(repeat' (first|((with_reducible refine jU ?_);intro K hK)|((with_reducible refine hK _ ?_);clear hK K)|(with_reducible refine je ?_ ?_)|((with_reducible refine jY ?_);first|refine fH (hc:=c1) (h:= ?_))|((with_reducible refine eF ?_);refine ss @tns ?_)|refine nv ?_|(with_reducible (refine cS rfl ?_ ?_)<;>(intro hb hb';try(exfalso;omega)))|(exact GExpr.el _)|exact yu|exact lq))
 all_goals first
  |exact aC [⟨#[]⟩,⟨#[43]⟩,⟨#[45]⟩,⟨#[42]⟩,⟨#[60]⟩,⟨#[61,61]⟩]
  |(exact jf rfl rfl ⟨⟨_,by decide,rfl⟩,rfl⟩)
def mX(e:GExpr):Prop:=iD Tryz.prog 156 [e.toD] (fun r os'=>(∃s:ByteArray,s.size≤jD e∧r= .c false [.raw (.string s)])∧os'= [])
def Uu :IC:=(zd_ [zz_ 2 (.box (.t 0)),zz_ 4 (.mov (.k (.string ⟨#[]⟩)))] (zd_ [zr_ 6 4 2,zq_ 7 156 6,zw_ 5 7] (.seq (zd_ [zr_ 8 4 2,zq_ 9 184 8,zw_ 10 1,zl_ 11 .lss 9 10] (.cond (.t 11) (zd_ [zw_ 12 5,zz_ 13 (.bin .add (.k (.string ⟨#[40]⟩)) (.t 12)),zz_ 14 (.bin .add (.t 13) (.k (.string ⟨#[41]⟩))),zw_ 4 14] .ret) .skip)) (zd_ [zw_ 15 5,zw_ 4 15] .ret))))
theorem QJ :bg Tryz.prog (Tryz.f185.body.getD .skip)=some Uu:=by kernel_rfl
theorem Pz(e:GExpr)(m:Int)(hw:jD e≤100000000)(hI:mX e):iD Tryz.prog 185 [e.toD,li m] (fun r os'=>(∃s:ByteArray,s.size≤jD e+2∧r= .c false [.raw (.string s)])∧os'= []):=by
 refine lU (fn:=Tryz.f185) (r:= .tmp 4) (hc:=QJ) (h:= ?_);unfold Uu;refine zb_ ?_;change AWP _ _ _ (st0 16 _);refine sS trivial ?_;unfold mX at hI
 repeat' (first|(refine rg_ ?_;intro K hK)|(refine hq_ ?_;clear hK K)|refine ca_ ?_ ?_|(refine cg_ ?_;first|(refine iW (h:=hI) (hK:= ?_);rintro _ _ ⟨⟨s,hs,rfl⟩,rfl⟩)|(refine iW (h:=(O4 e)) (hK:= ?_);rintro _ _ ⟨⟨lv,hl0,hl1,rfl⟩,rfl⟩))|refine sz_ (Zm @oN @pG) ?_|refine nv ?_|(refine c2_ ?_ ?_<;>(intro hb hb';try(exfalso;omega)))|(exact GExpr.el _)|exact bq_|fail)
 all_goals exact jf rfl rfl ⟨⟨_,by first|omega|(simp only[ByteArray.size_append,szD,a_,b_,c_];omega),rfl⟩,rfl⟩
def KG :IC:=(zd_ [zz_ 2 (.mov (.k (.string ⟨#[]⟩)))] (zd_ [zz_ 5 (.brow true 9 1 0 false []),zw_ 3 5] (.seq (zd_ [zk_ 4 0] (.block 0 (.loop (.seq (zd_ [zw_ 6 4,zw_ 7 0,zf_ 8 false 7,zl_ 9 .lss 6 8] (.cond (.t 9) .skip (.exit 0))) (.seq (.block 1 (.reg false [zw_ 12 3,zw_ 13 0,zw_ 14 4,ze_ 15 4 13 14,zr_ 16 4 15,zq_ 17 156 16,zz_ 18 (.brow false 9 1 1 false [(.t 17)]),zz_ 19 (.app 9 1 (.t 12) (.t 18)),zw_ 3 19])) (.reg false [zw_ 10 4,zm_ 11 .add 10 1,zw_ 4 11])))))) (zd_ [zw_ 20 3,zz_ 21 (.call 67 [(.t 20),(.k (.string ⟨#[44,32]⟩))]),zw_ 2 21] .ret))))
theorem KF :bg Tryz.prog (Tryz.f183.body.getD .skip)=some KG:=by kernel_rfl
theorem Xa(q:List GExpr)(hw:iJ q≤100000000)(hq:q.length≤1048576)(hI:∀e∈q,mX e):iD Tryz.prog 183 [.sl (q.map GExpr.toD)] (fun r os'=>(∃s:ByteArray,s.size≤iJ q+2*q.length∧r= .c false [.raw (.string s)])∧os'= []):=by
 refine lU (fn:=Tryz.f183) (r:= .tmp 2) (hc:=KF) (h:= ?_);unfold KG;refine zb_ ?_;change AWP _ _ _ (st0 22 _);refine sS trivial ?_
 repeat' (first|(refine rg_ ?_;intro K hK)|(refine hq_ ?_;clear hK K)|refine ca_ ?_ ?_|refine sz_ trivial ?_|refine nv ?_|(refine c2_ ?_ ?_<;>(intro hb hb';try(exfalso;omega)))|(exact GExpr.el _)|exact bq_|fail)
 refine iU (X:=Nat×Nat×List ByteArray) (fun z=> [.k,.d,.d,.v (.c false [.own 0 z.2.1]),.v (.c false [.raw (.int .i64 ((z.1:Nat)))])]) (fun z=> [⟨z.2.2.map ls,9,1,z.2.1,true⟩]) (fun _ _=> []) (fun z=>z.1≤q.length∧z.2.2.length=z.1∧bsz z.2.2≤iJ (q.take z.1)) (fun z=>q.length - z.1) (0,0,[]) ⟨f_ _,rfl,f_ _⟩ ?_ ?_
 ·simp[gI,iM,gq,gJ,AV.fits,AC.fits,FB,fP]
 ·rintro⟨k,v,l⟩ ⟨hk,hl,hz⟩;simp only at hk hl hz;simp only[FB,fP];by_cases hlt:k<q.length
  ·have hT:decide ((k:Int)<(q.length:Int))=true:=decide_eq_true (by omega);have hw1:IntKind.i64.wrap ((k:Int)+1)=((k+1:Nat):Int):=iP (by omega);have hix:=gK GExpr.toD q hlt;have hI1:=hI _ (e_ hlt);unfold mX at hI1;have htk:q.take (k+1)=q.take k++ [q[k]]:=g_ hlt
   repeat' (first|(refine rg_ ?_;intro K hK)|(refine hq_ ?_;clear hK K)|refine ca_ ?_ ?_|(refine cg_ ?_;first|(refine iW (h:=hI1) (hK:= ?_);rintro _ _ ⟨⟨s,hs,rfl⟩,rfl⟩))|refine sz_ (a3_ hT hw1 hix) ?_|refine nv ?_|(refine c2_ ?_ ?_<;>(intro hb hb';try(exfalso;omega)))|(exact GExpr.el _)|exact bq_|fail)
   all_goals first
    |omega
    |(simp only[m_];omega)
    | (refine gY (k+1,v+1,l++ [s]) ?_ ⟨by simp only;omega,by simp[hl],by simp only;rw[BJ,htk,Ed];simp only[bsz,iJ];omega⟩ (show q.length - (k+1)<q.length - k by omega)
       simp[gI,iM,gq,gJ,AV.fits,AC.fits,FB,fP,ls])
  ·have hT:decide ((k:Int)<(q.length:Int))=false:=decide_eq_false (by omega);have hkq:q.take k=q:=List.take_of_length_le (by omega);rw[hkq]at hz;have hb2:=Gf l ⟨#[44,32]⟩;have hb3:(⟨#[44,32]⟩:ByteArray).size=2:=rfl;rw[hb3]at hb2;have hJ:=pO l ⟨#[44,32]⟩ (by have:=vI l ⟨#[44,32]⟩ l.length (o_ _);rw[l_,hb3]at this;omega) (by omega)
   repeat' (first|(refine rg_ ?_;intro K hK)|(refine hq_ ?_;clear hK K)|refine ca_ ?_ ?_|(refine cg_ ?_;first|refine cT_ hJ ?_)|refine sz_ hT ?_|refine nv ?_|(refine c2_ ?_ ?_<;>(intro hb hb';try(exfalso;omega)))|(exact GExpr.el _)|exact bq_|fail)
   exact jf rfl rfl ⟨⟨_,by omega,rfl⟩,rfl⟩
def KE :IC:=(zd_ [zz_ 1 (.box (.t 0)),zz_ 2 (.mov (.k (.string ⟨#[]⟩)))] (.seq (zd_ [zt_ 5 0 1,zs_ 6 1 5] (.block 0 (zd_ [zm_ 8 .eql 6 1,zw_ 7 8] (.cond (.t 7) (zd_ [zt_ 9 1 1,zs_ 10 1 9,zq_ 11 68 10,zw_ 2 11] .ret) (zd_ [zm_ 13 .eql 6 2,zw_ 12 13] (.cond (.t 12) (zd_ [zt_ 14 2 1,zs_ 15 1 14,zz_ 16 (.bin .add (.k (.string ⟨#[34]⟩)) (.t 15)),zz_ 17 (.bin .add (.t 16) (.k (.string ⟨#[34]⟩))),zw_ 2 17] .ret) (zd_ [zm_ 19 .eql 6 3,zw_ 18 19] (.cond (.t 18) (zd_ [zt_ 20 2 1,zs_ 21 1 20,zw_ 2 21] .ret) (zd_ [zm_ 23 .eql 6 4,zw_ 22 23] (.cond (.t 22) (zd_ [zt_ 24 3 1,zs_ 25 1 24,zq_ 26 183 25,zz_ 27 (.bin .add (.k (.string ⟨#[91]⟩)) (.t 26)),zz_ 28 (.bin .add (.t 27) (.k (.string ⟨#[93]⟩))),zw_ 2 28] .ret) (zd_ [zm_ 30 .eql 6 5,zw_ 29 30] (.cond (.t 29) (.seq (.regN true false [] [zt_ 31 2 1,zs_ 32 1 31,zz_ 33 (.bin .add (.t 32) (.k (.string ⟨#[40]⟩))),zt_ 34 3 1,zs_ 35 1 34,zq_ 36 183 35,zl_ 37 .add 33 36,zz_ 38 (.bin .add (.t 37) (.k (.string ⟨#[41]⟩))),zw_ 2 38]) .ret) (zd_ [zm_ 40 .eql 6 7,zw_ 39 40] (.cond (.t 39) (.seq (.regN true false [] [zt_ 41 2 1,zs_ 42 1 41,zz_ 43 (.bin .add (.k (.string ⟨#[108,101,116,32]⟩)) (.t 42)),zz_ 44 (.bin .add (.t 43) (.k (.string ⟨#[32,61,32]⟩))),zt_ 45 3 1,zs_ 46 1 45,zz_ 47 (.iad 4 (.t 46) (.k (.int .i64 0))),zr_ 48 4 47,zq_ 49 156 48,zl_ 50 .add 44 49,zz_ 51 (.bin .add (.t 50) (.k (.string ⟨#[32,105,110,32]⟩))),zt_ 52 3 1,zs_ 53 1 52,zz_ 54 (.iad 4 (.t 53) (.k (.int .i64 1))),zr_ 55 4 54,zq_ 56 156 55,zl_ 57 .add 51 56,zw_ 2 57]) .ret) (zd_ [zm_ 59 .eql 6 9,zw_ 58 59] (.cond (.t 58) (.seq (.regN true false [] [zt_ 60 2 1,zs_ 61 1 60,zz_ 62 (.bin .add (.k (.string ⟨#[102,111,114,32]⟩)) (.t 61)),zz_ 63 (.bin .add (.t 62) (.k (.string ⟨#[32,105,110,32]⟩))),zt_ 64 3 1,zs_ 65 1 64,zz_ 66 (.iad 4 (.t 65) (.k (.int .i64 0))),zr_ 67 4 66,zq_ 68 156 67,zl_ 69 .add 63 68,zz_ 70 (.bin .add (.t 69) (.k (.string ⟨#[32,100,111,32]⟩))),zt_ 71 3 1,zs_ 72 1 71,zz_ 73 (.iad 4 (.t 72) (.k (.int .i64 1))),zr_ 74 4 73,zq_ 75 156 74,zl_ 76 .add 70 75,zw_ 2 76]) .ret) (zd_ [zm_ 78 .eql 6 8,zw_ 77 78] (.cond (.t 77) (.seq (.regN true false [] [zt_ 79 3 1,zs_ 80 1 79,zz_ 81 (.iad 4 (.t 80) (.k (.int .i64 0))),zr_ 82 4 81,zq_ 83 156 82,zz_ 84 (.bin .add (.k (.string ⟨#[105,102,32]⟩)) (.t 83)),zz_ 85 (.bin .add (.t 84) (.k (.string ⟨#[32,116,104,101,110,32]⟩))),zt_ 86 3 1,zs_ 87 1 86,zz_ 88 (.iad 4 (.t 87) (.k (.int .i64 1))),zr_ 89 4 88,zq_ 90 156 89,zl_ 91 .add 85 90,zz_ 92 (.bin .add (.t 91) (.k (.string ⟨#[32,101,108,115,101,32]⟩))),zt_ 93 3 1,zs_ 94 1 93,zz_ 95 (.iad 4 (.t 94) (.k (.int .i64 2))),zr_ 96 4 95,zq_ 97 156 96,zl_ 98 .add 92 97,zw_ 2 98]) .ret) .skip)))))))))))))))))) (zd_ [zr_ 99 4 1,zq_ 100 184 99,zw_ 3 100] (zd_ [zw_ 101 3,zw_ 4 101] (.seq (zd_ [zw_ 102 3,zm_ 103 .eql 102 1] (.cond (.t 103) (.reg false [zk_ 4 2]) .skip)) (.seq (.regN true false [] [zt_ 104 3 1,zs_ 105 1 104,zz_ 106 (.iad 4 (.t 105) (.k (.int .i64 0))),zr_ 107 4 106,zw_ 108 4,zp_ 109 185 107 108,zz_ 110 (.bin .add (.t 109) (.k (.string ⟨#[32]⟩))),zt_ 111 1 1,zs_ 112 1 111,zq_ 113 186 112,zl_ 114 .add 110 113,zz_ 115 (.bin .add (.t 114) (.k (.string ⟨#[32]⟩))),zt_ 116 3 1,zs_ 117 1 116,zz_ 118 (.iad 4 (.t 117) (.k (.int .i64 1))),zr_ 119 4 118,zw_ 120 3,zm_ 121 .add 120 1,zp_ 122 185 119 121,zl_ 123 .add 115 122,zw_ 2 123]) .ret))))))
theorem KD :bg Tryz.prog (Tryz.f156.body.getD .skip)=some KE:=by kernel_rfl
theorem WY(e:GExpr)(hw:e.toD.wt≤1000000)(hn:jP e=true)(hI:∀y∈e.args,mX y):iD Tryz.prog 156 [e.toD] (fun r os'=>(∃s:ByteArray,s.size≤jD e∧r= .c false [.raw (.string s)])∧os'= []):=by
 refine lU (fn:=Tryz.f156) (r:= .tmp 2) (hc:=KD) (h:= ?_);unfold KE;refine zb_ ?_;change AWP _ _ _ (st0 124 _);refine sS trivial ?_;have hb:=UO e;have hlen:=AZ e;have hbs:iJ e.args≤jD e:=by omega
 have hbd:jD e≤100000000:=by unfold jD;omega
 have cl:=Xa e.args (by omega) (by omega) hI;have cs:=O4 e;unfold mX at hI;have kk:∀j:Int,(e.kind==j)=decide (e.kind=j):=fun j=>by by_cases h:e.kind=j<;>simp[h]
 rcases Na hn with⟨k,n0,n1⟩|k|k|k|k|⟨k,ha,n0,n1⟩|⟨k,ha⟩|⟨k,ha⟩|⟨k,ha⟩
 ·have f1:(e.kind==1)=true:=by rw[kk];exact decide_eq_true (by omega)
  have f2:(e.kind==2)=false:=za_ (by omega);have f3:(e.kind==3)=false:=za_ (by omega);have f4:(e.kind==4)=false:=za_ (by omega);have f5:(e.kind==5)=false:=za_ (by omega);have f6:(e.kind==6)=false:=za_ (by omega);have f7:(e.kind==7)=false:=za_ (by omega);have f8:(e.kind==8)=false:=za_ (by omega);have f9:(e.kind==9)=false:=za_ (by omega);have c1:=iy (n:=e.n) (by omega) (by omega);have hfl:=jJ (n:=e.n) (by omega) (by omega)
  repeat' (first|(refine hq_ ?_;clear hK K)|refine ca_ ?_ ?_|(refine cg_ ?_;first|refine cT_ c1 ?_)|refine sz_ (a3_ f1 f2 (a9_ f3 f4 f5 f6 f7 f8 f9 @oN @pG)) ?_|refine nv ?_|(refine rD ?_;intro K hK)|(refine c2_ ?_ ?_<;>(intro hb hb';try(exfalso;omega)))|(exact GExpr.el _)|exact bq_|fail)
  all_goals first
   |omega
   |(simp only[ByteArray.size_append,szD,a_,b_,c_];omega)
   |(exact jf rfl rfl ⟨⟨_,by first|omega|(simp only[ByteArray.size_append,szD,a_,b_,c_];omega),rfl⟩,rfl⟩)
 ·have f1:(e.kind==1)=false:=za_ (by omega);have f2:(e.kind==2)=true:=by rw[kk];exact decide_eq_true (by omega)
  have f3:(e.kind==3)=false:=za_ (by omega);have f4:(e.kind==4)=false:=za_ (by omega);have f5:(e.kind==5)=false:=za_ (by omega);have f6:(e.kind==6)=false:=za_ (by omega);have f7:(e.kind==7)=false:=za_ (by omega);have f8:(e.kind==8)=false:=za_ (by omega);have f9:(e.kind==9)=false:=za_ (by omega)
  repeat' (first|(refine hq_ ?_;clear hK K)|refine ca_ ?_ ?_|refine sz_ (a3_ f1 f2 (a9_ f3 f4 f5 f6 f7 f8 f9 @oN @pG)) ?_|refine nv ?_|(refine rD ?_;intro K hK)|(refine c2_ ?_ ?_<;>(intro hb hb';try(exfalso;omega)))|(exact GExpr.el _)|exact bq_|fail)
  all_goals first
   |omega
   |(simp only[ByteArray.size_append,szD,a_,b_,c_];omega)
   |(exact jf rfl rfl ⟨⟨_,by first|omega|(simp only[ByteArray.size_append,szD,a_,b_,c_];omega),rfl⟩,rfl⟩)
 ·have f1:(e.kind==1)=false:=za_ (by omega);have f2:(e.kind==2)=false:=za_ (by omega);have f3:(e.kind==3)=true:=by rw[kk];exact decide_eq_true (by omega)
  have f4:(e.kind==4)=false:=za_ (by omega);have f5:(e.kind==5)=false:=za_ (by omega);have f6:(e.kind==6)=false:=za_ (by omega);have f7:(e.kind==7)=false:=za_ (by omega);have f8:(e.kind==8)=false:=za_ (by omega);have f9:(e.kind==9)=false:=za_ (by omega)
  repeat' (first|(refine hq_ ?_;clear hK K)|refine ca_ ?_ ?_|refine sz_ (a3_ f1 f2 (a9_ f3 f4 f5 f6 f7 f8 f9 @oN @pG)) ?_|refine nv ?_|(refine rD ?_;intro K hK)|(refine c2_ ?_ ?_<;>(intro hb hb';try(exfalso;omega)))|(exact GExpr.el _)|exact bq_|fail)
  all_goals first
   |omega
   |(simp only[ByteArray.size_append,szD,a_,b_,c_];omega)
   |(exact jf rfl rfl ⟨⟨_,by first|omega|(simp only[ByteArray.size_append,szD,a_,b_,c_];omega),rfl⟩,rfl⟩)
 ·have f1:(e.kind==1)=false:=za_ (by omega);have f2:(e.kind==2)=false:=za_ (by omega);have f3:(e.kind==3)=false:=za_ (by omega);have f4:(e.kind==4)=true:=by rw[kk];exact decide_eq_true (by omega)
  have f5:(e.kind==5)=false:=za_ (by omega);have f6:(e.kind==6)=false:=za_ (by omega);have f7:(e.kind==7)=false:=za_ (by omega);have f8:(e.kind==8)=false:=za_ (by omega);have f9:(e.kind==9)=false:=za_ (by omega)
  repeat' (first|(refine hq_ ?_;clear hK K)|refine ca_ ?_ ?_|(refine cg_ ?_;first|(refine iW (h:=cl) (hK:= ?_);rintro _ _ ⟨⟨ll,hll,rfl⟩,rfl⟩))|refine sz_ (a3_ f1 f2 (a9_ f3 f4 f5 f6 f7 f8 f9 @oN @pG)) ?_|refine nv ?_|(refine rD ?_;intro K hK)|(refine c2_ ?_ ?_<;>(intro hb hb';try(exfalso;omega)))|(exact GExpr.el _)|exact bq_|fail)
  all_goals first
   |omega
   |(simp only[ByteArray.size_append,szD,a_,b_,c_];omega)
   |(exact jf rfl rfl ⟨⟨_,by first|omega|(simp only[ByteArray.size_append,szD,a_,b_,c_];omega),rfl⟩,rfl⟩)
 ·have f1:(e.kind==1)=false:=za_ (by omega);have f2:(e.kind==2)=false:=za_ (by omega);have f3:(e.kind==3)=false:=za_ (by omega);have f4:(e.kind==4)=false:=za_ (by omega);have f5:(e.kind==5)=true:=by rw[kk];exact decide_eq_true (by omega)
  have f6:(e.kind==6)=false:=za_ (by omega);have f7:(e.kind==7)=false:=za_ (by omega);have f8:(e.kind==8)=false:=za_ (by omega);have f9:(e.kind==9)=false:=za_ (by omega)
  repeat' (first|(refine rg_ ?_;intro K hK)|((first|(with_reducible refine fD 99 false iR ?_)|(refine fD 99 false (by simp[kU,St.ev]) ?_));intro K hK)|refine nN ?_|(refine hq_ ?_;clear hK K)|refine ca_ ?_ ?_|(refine cg_ ?_;first|(refine iW (h:=cl) (hK:= ?_);rintro _ _ ⟨⟨ll,hll,rfl⟩,rfl⟩))|((with_reducible refine kL ?_);first|(refine Ci (h:=cl) (hne:=⟨_,[],⟨⟨⟨#[]⟩,f_ _,rfl⟩,rfl⟩,rfl⟩) (hr:= ?_);rintro _ _ ⟨⟨ll,hll,rfl⟩,rfl⟩))|refine sz_ (a3_ f1 f2 (a9_ f3 f4 f5 f6 f7 f8 f9 @oN @pG)) ?_|refine nv ?_|(refine c2_ ?_ ?_<;>(intro hb hb';try(exfalso;omega)))|(exact GExpr.el _)|exact bq_|fail)
  all_goals first
   |omega
   |(simp only[ByteArray.size_append,szD,a_,b_,c_];omega)
   |(exact jf rfl rfl ⟨⟨_,by first|omega|(simp only[ByteArray.size_append,szD,a_,b_,c_];omega),rfl⟩,rfl⟩)
 ·have f1:(e.kind==1)=false:=za_ (by omega);have f2:(e.kind==2)=false:=za_ (by omega);have f3:(e.kind==3)=false:=za_ (by omega);have f4:(e.kind==4)=false:=za_ (by omega);have f5:(e.kind==5)=false:=za_ (by omega);have f6:(e.kind==6)=true:=by rw[kk];exact decide_eq_true (by omega)
  have f7:(e.kind==7)=false:=za_ (by omega);have f8:(e.kind==8)=false:=za_ (by omega);have f9:(e.kind==9)=false:=za_ (by omega);have h0:0<e.args.length:=by omega
  have h1:1<e.args.length:=by omega
  have i0:idx (e.args.map GExpr.toD) (some 0)=some (e.args[0]).toD:=gK GExpr.toD e.args h0;have i1:idx (e.args.map GExpr.toD) (some 1)=some (e.args[1]).toD:=gK GExpr.toD e.args h1;have hx0:=hI _ (e_ h0);have hx1:=hI _ (e_ h1);have hsum:jD e.args[0]+jD e.args[1]≤iJ e.args:=by
   have e1:e.args=e.args[0]::e.args[1]::e.args.drop 2:=by rw[← d_,← d_];rfl
   have e2:iJ e.args=jD e.args[0]+(jD e.args[1]+iJ (e.args.drop 2)):=by(conv=>lhs;rw[e1]);simp only[iJ]
   omega
  repeat' (first|(refine rg_ ?_;intro K hK)|((first|(with_reducible refine fD 99 false iR ?_)|(refine fD 99 false (by simp[kU,St.ev]) ?_));intro K hK)|refine nN ?_|(refine hq_ ?_;clear hK K)|refine ca_ ?_ ?_|(refine cg_ ?_;first|(refine iW (h:=cs) (hK:= ?_);rintro _ _ ⟨⟨lv,hl0,hl1,rfl⟩,rfl⟩)|(refine iW (h:=(Pz e.args[0] _ (by omega) hx0)) (hK:= ?_);rintro _ _ ⟨⟨s0,hs0,rfl⟩,rfl⟩)|(refine iW (h:=(Pz e.args[1] _ (by omega) hx1)) (hK:= ?_);rintro _ _ ⟨⟨s1,hs1,rfl⟩,rfl⟩)|(refine iW (h:=(Jg e.n n0 n1)) (hK:= ?_);rintro _ _ ⟨⟨sy,hsy,rfl⟩,rfl⟩))|((with_reducible refine kL ?_);first|(refine Ci (h:=(Pz e.args[0] _ (by omega) hx0)) (hne:=⟨_,[],⟨⟨⟨#[]⟩,f_ _,rfl⟩,rfl⟩,rfl⟩) (hr:= ?_);rintro _ _ ⟨⟨s0,hs0,rfl⟩,rfl⟩)|(refine Ci (h:=(Pz e.args[1] _ (by omega) hx1)) (hne:=⟨_,[],⟨⟨⟨#[]⟩,f_ _,rfl⟩,rfl⟩,rfl⟩) (hr:= ?_);rintro _ _ ⟨⟨s1,hs1,rfl⟩,rfl⟩)|(refine Ci (h:=(Jg e.n n0 n1)) (hne:=⟨_,[],⟨⟨⟨#[]⟩,f_ _,rfl⟩,rfl⟩,rfl⟩) (hr:= ?_);rintro _ _ ⟨⟨sy,hsy,rfl⟩,rfl⟩))|refine sz_ (a5_ f1 f2 f3 f4 (a9_ f5 f6 f7 f8 f9 @oN @pG i0 i1)) ?_|refine nv ?_|(refine c2_ ?_ ?_<;>(intro hb hb';try(exfalso;omega)))|(exact GExpr.el _)|exact bq_|fail)
  all_goals first
   |omega
   |(simp only[ByteArray.size_append,szD,a_,b_,c_];omega)
   |(exact jf rfl rfl ⟨⟨_,by first|omega|(simp only[ByteArray.size_append,szD,a_,b_,c_];omega),rfl⟩,rfl⟩)
 ·have f1:(e.kind==1)=false:=za_ (by omega);have f2:(e.kind==2)=false:=za_ (by omega);have f3:(e.kind==3)=false:=za_ (by omega);have f4:(e.kind==4)=false:=za_ (by omega);have f5:(e.kind==5)=false:=za_ (by omega);have f6:(e.kind==6)=false:=za_ (by omega);have f7:(e.kind==7)=true:=by rw[kk];exact decide_eq_true (by omega)
  have f8:(e.kind==8)=false:=za_ (by omega);have f9:(e.kind==9)=false:=za_ (by omega);have h0:0<e.args.length:=by omega
  have h1:1<e.args.length:=by omega
  have i0:idx (e.args.map GExpr.toD) (some 0)=some (e.args[0]).toD:=gK GExpr.toD e.args h0;have i1:idx (e.args.map GExpr.toD) (some 1)=some (e.args[1]).toD:=gK GExpr.toD e.args h1;have hx0:=hI _ (e_ h0);have hx1:=hI _ (e_ h1);have hsum:jD e.args[0]+jD e.args[1]≤iJ e.args:=by
   have e1:e.args=e.args[0]::e.args[1]::e.args.drop 2:=by rw[← d_,← d_];rfl
   have e2:iJ e.args=jD e.args[0]+(jD e.args[1]+iJ (e.args.drop 2)):=by(conv=>lhs;rw[e1]);simp only[iJ]
   omega
  repeat' (first|(refine rg_ ?_;intro K hK)|((first|(with_reducible refine fD 99 false iR ?_)|(refine fD 99 false (by simp[kU,St.ev]) ?_));intro K hK)|refine nN ?_|(refine hq_ ?_;clear hK K)|refine ca_ ?_ ?_|(refine cg_ ?_;first|(refine iW (h:=hx0) (hK:= ?_);rintro _ _ ⟨⟨s0,hs0,rfl⟩,rfl⟩)|(refine iW (h:=hx1) (hK:= ?_);rintro _ _ ⟨⟨s1,hs1,rfl⟩,rfl⟩))|((with_reducible refine kL ?_);first|(refine Ci (h:=hx0) (hne:=⟨_,[],⟨⟨⟨#[]⟩,f_ _,rfl⟩,rfl⟩,rfl⟩) (hr:= ?_);rintro _ _ ⟨⟨s0,hs0,rfl⟩,rfl⟩)|(refine Ci (h:=hx1) (hne:=⟨_,[],⟨⟨⟨#[]⟩,f_ _,rfl⟩,rfl⟩,rfl⟩) (hr:= ?_);rintro _ _ ⟨⟨s1,hs1,rfl⟩,rfl⟩))|refine sz_ (a5_ f1 f2 f3 f4 (a9_ f5 f6 f7 f8 f9 @oN @pG i0 i1)) ?_|refine nv ?_|(refine c2_ ?_ ?_<;>(intro hb hb';try(exfalso;omega)))|(exact GExpr.el _)|exact bq_|fail)
  all_goals first
   |omega
   |(simp only[ByteArray.size_append,szD,a_,b_,c_];omega)
   |(exact jf rfl rfl ⟨⟨_,by first|omega|(simp only[ByteArray.size_append,szD,a_,b_,c_];omega),rfl⟩,rfl⟩)
 ·have f1:(e.kind==1)=false:=za_ (by omega);have f2:(e.kind==2)=false:=za_ (by omega);have f3:(e.kind==3)=false:=za_ (by omega);have f4:(e.kind==4)=false:=za_ (by omega);have f5:(e.kind==5)=false:=za_ (by omega);have f6:(e.kind==6)=false:=za_ (by omega);have f7:(e.kind==7)=false:=za_ (by omega);have f8:(e.kind==8)=true:=by rw[kk];exact decide_eq_true (by omega)
  have f9:(e.kind==9)=false:=za_ (by omega);have h0:0<e.args.length:=by omega
  have h1:1<e.args.length:=by omega
  have i0:idx (e.args.map GExpr.toD) (some 0)=some (e.args[0]).toD:=gK GExpr.toD e.args h0;have i1:idx (e.args.map GExpr.toD) (some 1)=some (e.args[1]).toD:=gK GExpr.toD e.args h1;have hx0:=hI _ (e_ h0);have hx1:=hI _ (e_ h1);have h2:2<e.args.length:=by omega
  have i2:idx (e.args.map GExpr.toD) (some 2)=some (e.args[2]).toD:=gK GExpr.toD e.args h2;have hx2:=hI _ (e_ h2);have hsum:jD e.args[0]+jD e.args[1]+jD e.args[2]≤iJ e.args:=by
   have e1:e.args=e.args[0]::e.args[1]::e.args[2]::e.args.drop 3:=by rw[← d_,← d_,← d_];rfl
   have e2:iJ e.args=jD e.args[0]+(jD e.args[1]+(jD e.args[2]+iJ (e.args.drop 3))):=by(conv=>lhs;rw[e1]);simp only[iJ]
   omega
  repeat' (first|(refine rg_ ?_;intro K hK)|((first|(with_reducible refine fD 99 false iR ?_)|(refine fD 99 false (by simp[kU,St.ev]) ?_));intro K hK)|refine nN ?_|(refine hq_ ?_;clear hK K)|refine ca_ ?_ ?_|(refine cg_ ?_;first|(refine iW (h:=hx0) (hK:= ?_);rintro _ _ ⟨⟨s0,hs0,rfl⟩,rfl⟩)|(refine iW (h:=hx1) (hK:= ?_);rintro _ _ ⟨⟨s1,hs1,rfl⟩,rfl⟩)|(refine iW (h:=hx2) (hK:= ?_);rintro _ _ ⟨⟨s2,hs2,rfl⟩,rfl⟩))|((with_reducible refine kL ?_);first|(refine Ci (h:=hx0) (hne:=⟨_,[],⟨⟨⟨#[]⟩,f_ _,rfl⟩,rfl⟩,rfl⟩) (hr:= ?_);rintro _ _ ⟨⟨s0,hs0,rfl⟩,rfl⟩)|(refine Ci (h:=hx1) (hne:=⟨_,[],⟨⟨⟨#[]⟩,f_ _,rfl⟩,rfl⟩,rfl⟩) (hr:= ?_);rintro _ _ ⟨⟨s1,hs1,rfl⟩,rfl⟩)|(refine Ci (h:=hx2) (hne:=⟨_,[],⟨⟨⟨#[]⟩,f_ _,rfl⟩,rfl⟩,rfl⟩) (hr:= ?_);rintro _ _ ⟨⟨s2,hs2,rfl⟩,rfl⟩))|refine sz_ (a6_ f1 f2 f3 f4 f5 (a9_ f6 f7 f8 f9 @oN @pG i0 i1 i2)) ?_|refine nv ?_|(refine c2_ ?_ ?_<;>(intro hb hb';try(exfalso;omega)))|(exact GExpr.el _)|exact bq_|fail)
  all_goals first
   |omega
   |(simp only[ByteArray.size_append,szD,a_,b_,c_];omega)
   |(exact jf rfl rfl ⟨⟨_,by first|omega|(simp only[ByteArray.size_append,szD,a_,b_,c_];omega),rfl⟩,rfl⟩)
 ·have f1:(e.kind==1)=false:=za_ (by omega);have f2:(e.kind==2)=false:=za_ (by omega);have f3:(e.kind==3)=false:=za_ (by omega);have f4:(e.kind==4)=false:=za_ (by omega);have f5:(e.kind==5)=false:=za_ (by omega);have f6:(e.kind==6)=false:=za_ (by omega);have f7:(e.kind==7)=false:=za_ (by omega);have f8:(e.kind==8)=false:=za_ (by omega);have f9:(e.kind==9)=true:=by rw[kk];exact decide_eq_true (by omega)
  have h0:0<e.args.length:=by omega
  have h1:1<e.args.length:=by omega
  have i0:idx (e.args.map GExpr.toD) (some 0)=some (e.args[0]).toD:=gK GExpr.toD e.args h0;have i1:idx (e.args.map GExpr.toD) (some 1)=some (e.args[1]).toD:=gK GExpr.toD e.args h1;have hx0:=hI _ (e_ h0);have hx1:=hI _ (e_ h1);have hsum:jD e.args[0]+jD e.args[1]≤iJ e.args:=by
   have e1:e.args=e.args[0]::e.args[1]::e.args.drop 2:=by rw[← d_,← d_];rfl
   have e2:iJ e.args=jD e.args[0]+(jD e.args[1]+iJ (e.args.drop 2)):=by(conv=>lhs;rw[e1]);simp only[iJ]
   omega
  repeat' (first|(refine rg_ ?_;intro K hK)|((first|(with_reducible refine fD 99 false iR ?_)|(refine fD 99 false (by simp[kU,St.ev]) ?_));intro K hK)|refine nN ?_|(refine hq_ ?_;clear hK K)|refine ca_ ?_ ?_|(refine cg_ ?_;first|(refine iW (h:=hx0) (hK:= ?_);rintro _ _ ⟨⟨s0,hs0,rfl⟩,rfl⟩)|(refine iW (h:=hx1) (hK:= ?_);rintro _ _ ⟨⟨s1,hs1,rfl⟩,rfl⟩))|((with_reducible refine kL ?_);first|(refine Ci (h:=hx0) (hne:=⟨_,[],⟨⟨⟨#[]⟩,f_ _,rfl⟩,rfl⟩,rfl⟩) (hr:= ?_);rintro _ _ ⟨⟨s0,hs0,rfl⟩,rfl⟩)|(refine Ci (h:=hx1) (hne:=⟨_,[],⟨⟨⟨#[]⟩,f_ _,rfl⟩,rfl⟩,rfl⟩) (hr:= ?_);rintro _ _ ⟨⟨s1,hs1,rfl⟩,rfl⟩))|refine sz_ (a5_ f1 f2 f3 f4 (a9_ f5 f6 f7 f8 f9 @oN @pG i0 i1)) ?_|refine nv ?_|(refine c2_ ?_ ?_<;>(intro hb hb';try(exfalso;omega)))|(exact GExpr.el _)|exact bq_|fail)
  all_goals first
   |omega
   |(simp only[ByteArray.size_append,szD,a_,b_,c_];omega)
   |(exact jf rfl rfl ⟨⟨_,by first|omega|(simp only[ByteArray.size_append,szD,a_,b_,c_];omega),rfl⟩,rfl⟩)
theorem Q7 :∀(n:Nat) (e:GExpr),e.toD.wt<n→e.toD.wt≤1000000→e.allN=true→mX e:=by
 intro n
 induction n with
 |zero=>intro e h;omega
 |succ n ih=>intro e h hw ha;exact WY e hw (Ru ha) (fun y hy=>ih y (by have:=qE hy;omega) (by have:=qE hy;omega) (VN ha hy))
def KI :IC:=(zd_ [zz_ 1 (.box (.t 0)),zz_ 2 (.mov (.k (.string ⟨#[]⟩)))] (.seq (zd_ [zr_ 3 4 1,zq_ 4 155 3,zz_ 5 (.not (.t 4))] (.cond (.t 5) (zd_ [zz_ 2 (.mov (.k (.string ⟨#[]⟩)))] .ret) .skip)) (zd_ [zr_ 6 4 1,zq_ 7 156 6,zw_ 2 7] .ret)))
theorem KH :bg Tryz.prog (Tryz.f123.body.getD .skip)=some KI:=by kernel_rfl
theorem Xd(e:GExpr)(hw:e.toD.wt≤1000000):iD Tryz.prog 123 [e.toD] (fun r os'=>(∃s:ByteArray,s.size≤jD e∧r= .c false [.raw (.string s)])∧os'= []):=by
 refine lU (fn:=Tryz.f123) (r:= .tmp 2) (hc:=KH) (h:= ?_);unfold KI;refine zb_ ?_;change AWP _ _ _ (st0 8 _);refine sS trivial ?_;have c1:=BX e (by omega);cases hv:G5 e
 ·rw[hv]at c1
  repeat' (first|(refine rg_ ?_;intro K hK)|(refine hq_ ?_;clear hK K)|refine ca_ ?_ ?_|(refine cg_ ?_;first|refine cT_ c1 ?_)|refine sz_ trivial ?_|refine nv ?_|(refine c2_ ?_ ?_<;>(intro hb hb';try(exfalso;omega)))|(exact GExpr.el _)|exact bq_|fail)
  exact jf rfl rfl ⟨⟨_,f_ _,rfl⟩,rfl⟩
 ·rw[hv]at c1;have ha:e.allN=true:=by unfold G5 at hv;simp only[h_]at hv;exact hv.2
  have c2:=Q7 _ e (Nat.lt_succ_self _) hw ha;unfold mX at c2
  repeat' (first|(refine rg_ ?_;intro K hK)|(refine hq_ ?_;clear hK K)|refine ca_ ?_ ?_|(refine cg_ ?_;first|refine cT_ c1 ?_|(refine iW (h:=c2) (hK:= ?_);rintro _ _ ⟨⟨s,hs,rfl⟩,rfl⟩))|refine sz_ trivial ?_|refine nv ?_|(refine c2_ ?_ ?_<;>(intro hb hb';try(exfalso;omega)))|(exact GExpr.el _)|exact bq_|fail)
  exact jf rfl rfl ⟨⟨_,hs,rfl⟩,rfl⟩
end Go.Proofs.YtfengkmaphbofaaGreatDoor
