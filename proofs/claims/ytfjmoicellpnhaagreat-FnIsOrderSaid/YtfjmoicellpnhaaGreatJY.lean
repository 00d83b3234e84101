/-
  Texts joined: Free2 Uses Visit0 Visit Missing.
-/
import Derived.Test.YtfjmoicellpnhaaGreatJV
import Derived.Test.YtfjmoicellpnhaaGreatJE
import Derived.Test.YtfjmoicellpnhaaGreatJR
set_option maxHeartbeats 16000000
set_option linter.unusedSimpArgs false
set_option linter.unusedVariables false
namespace Go.Proofs.YtfjmoicellpnhaaGreat
open Go.RowKit
open List renaming length_append→a_,append_assoc→b_,map_cons→c_,length_cons→d_,map_nil→f_,nil_append→g_,length_nil→h_,cons_append→i_,all_cons→j_,replicate→k_,getElem_mem→n_,map_append→o_,length_take→q_,take_succ_cons→s_,getElem_map→v_,take_length→w_,map_take→y_,length→B_,map→C_
open Nat renaming add_assoc→e_,reduceAdd→l_,reduceSub→m_,lt_succ_self→u_,zero_le→A_
open Or renaming inl→p_
open IntKind renaming i64→r_
attribute [local irreducible] sw sd sn
mutual
def GExpr.free :GExpr→List ByteArray→List ByteArray
 | .mk kind n text args,b=>if(kind==3) && !sJ b text then [text]else GExpr.frees args b (if kind==7 || kind==9 then b++ [text]else b)
def GExpr.frees :List GExpr→List ByteArray→List ByteArray→List ByteArray
 | [],_,_=> []
 |a::r,b0,b1=>GExpr.free a b0++GExpr.frees r b1 b1
end
def GExpr.inner(x:GExpr)(b:List ByteArray):List ByteArray:=if x.kind==7 || x.kind==9 then b++ [x.text]else b
theorem GExpr.free_eq(x:GExpr)(b:List ByteArray):x.free b=if(x.kind==3) && !sJ b x.text then [x.text]else GExpr.frees x.args b (x.inner b):=by
 cases x with
 |mk kind n text args=>rw[GExpr.free];rfl
theorem nI(b0 b1:List ByteArray):GExpr.frees [] b0 b1= []:=by rw[GExpr.frees]
theorem Jr(a:GExpr):∀(l:List GExpr) (b0 b1:List ByteArray),GExpr.frees (l++ [a]) b0 b1=GExpr.frees l b0 b1++a.free (if l.length=0 then b0 else b1)
 | [],b0,b1=>by rw[g_,GExpr.frees,GExpr.frees,nI];simp
 | x::l,b0,b1=>by
   rw[i_,GExpr.frees,GExpr.frees,Jr a l];have h:(if l.length=0 then b1 else b1)=b1:=by split<;>rfl
   rw[h,if_neg (by simp),b_]
theorem vX(l:List GExpr)(b0 b1:List ByteArray){i:Nat}(h:i<l.length):GExpr.frees (l.take (i+1)) b0 b1=GExpr.frees (l.take i) b0 b1++(l[i]).free (if i=0 then b0 else b1):=by
 rw[List.take_succ_eq_append_getElem h,Jr,q_,Nat.min_eq_left (by omega)]
theorem GExpr.Zq(x:GExpr):x.toD.wt=x.text.size+(x.args.length+D.wts (x.args.map GExpr.toD)):=by
 rw[GExpr.aN];simp[D.wt,D.wts,li,ls,pz]
mutual
theorem GExpr.ji :∀(x:GExpr) (b:List ByteArray),(x.free b).length≤1+x.toD.wt
 | .mk kind n text args,b=>by
   rw[GExpr.free,GExpr.Zq];split
   ·simp
   ·have:=GExpr.vw args b (if kind==7 || kind==9 then b++ [text]else b);simp only[GExpr.args,GExpr.text];omega
theorem GExpr.vw :∀(l:List GExpr) (b0 b1:List ByteArray),(GExpr.frees l b0 b1).length≤l.length+D.wts (l.map GExpr.toD)
 | [],_,_=>by rw[nI];simp
 | a::r,b0,b1=>by
   rw[GExpr.frees,a_,c_,D.wts,d_];have h1:=GExpr.ji a b0;have h2:=GExpr.vw r b1 b1;omega
end
theorem aa6(l:List D)(i:Nat):D.wts (l.take i)≤D.wts l:=by
 induction l generalizing i with
 |nil=>simp
 | cons d l ih=>
   cases i with
   |zero=>simp[D.wts]
   |succ i=>rw[s_,D.wts,D.wts];have:=ih i;omega
theorem oz(l:List GExpr)(b0 b1:List ByteArray)(i:Nat):(GExpr.frees (l.take i) b0 b1).length≤l.length+D.wts (l.map GExpr.toD):=by
 have h1:=GExpr.vw (l.take i) b0 b1;have h2:=aa6 (l.map GExpr.toD) i;rw[y_]at h1;have h3:(l.take i).length≤l.length:=by rw[q_];omega
 omega
theorem DI{x y:GExpr}(h:y∈x.args):y.toD.wt+1≤x.toD.wt:=by
 rw[GExpr.Zq x];have h1:=D.W9 (List.mem_map_of_mem (f:=GExpr.toD) h);have h2:=List.length_pos_of_mem h;omega
theorem yT(x:GExpr)(b:List ByteArray):(x.inner b).length≤b.length+1:=by
 unfold GExpr.inner;split<;>simp
theorem Iu(l:List ByteArray)(s:ByteArray):aI Tryz.prog 110 [.sl (l.map ls),ls s] (.c false [.raw (.bool (sJ l s))]):=Gl fun w vs hr=>by
 obtain⟨v,u,rfl,h1,h2⟩:=Qq hr;obtain⟨fp,hS⟩:=xI h1;obtain rfl:=pX h2;exact Iw l s fp v w hS
def YE :IC:=(zd_ [zz_ 2 (.box (.t 0)),zz_ 4 (.mov (.k (.slice none 0 0)))] (zd_ [zz_ 8 (.brow true 9 1 0 false []),zw_ 5 8] (.seq (zd_ [zt_ 9 0 2,zs_ 10 1 9,zm_ 11 .eql 10 3,zw_ 12 11,zv_ 13 12 1,zy_ 14 12 (.fad 2 (.t 2)),zy_ 15 12 (.load 1 false (.t 14)),zy_ 16 12 (.call 110 [(.t 13),(.t 15)]),zy_ 17 12 (.not (.t 16)),zh_ 18 12 17 false] (.cond (.t 18) (zd_ [zw_ 19 5,zt_ 20 2 2,zs_ 21 1 20,zz_ 22 (.brow false 9 1 1 false [(.t 21)]),zz_ 23 (.app 9 1 (.t 19) (.t 22)),zw_ 4 23] .ret) .skip)) (.seq (zd_ [zk_ 6 0] (.block 0 (.loop (.seq (zd_ [zw_ 24 6,zt_ 25 3 2,zs_ 26 1 25,zf_ 27 false 26,zl_ 28 .lss 24 27] (.cond (.t 28) .skip (.exit 0))) (.seq (.block 1 (zd_ [zw_ 31 1,zw_ 7 31] (.seq (zd_ [zt_ 32 0 2,zs_ 33 1 32,zm_ 34 .eql 33 7,zw_ 35 34,zx_ 36 35 (.fad 0 (.t 2)),zx_ 37 35 (.load 1 false (.t 36)),zx_ 38 35 (.bin .eql (.t 37) (.k (.int .i64 9))),zg_ 39 35 true 38,zw_ 40 39,zv_ 41 40 6,zy_ 42 40 (.bin .gtr (.t 41) (.k (.int .i64 0))),zh_ 43 40 42 false] (.cond (.t 43) (.reg true [zz_ 44 (.brow true 9 1 0 false []),zw_ 45 1,zz_ 46 (.app 9 1 (.t 44) (.t 45)),zt_ 47 2 2,zs_ 48 1 47,zz_ 49 (.brow false 9 1 1 false [(.t 48)]),zz_ 50 (.app 9 1 (.t 46) (.t 49)),zw_ 7 50]) .skip)) (.reg false [zw_ 51 5,zt_ 52 3 2,zs_ 53 1 52,zw_ 54 6,ze_ 55 4 53 54,zr_ 56 4 55,zw_ 57 7,zp_ 58 97 56 57,zz_ 59 (.app 9 1 (.t 51) (.t 58)),zw_ 5 59])))) (.reg false [zw_ 29 6,zm_ 30 .add 29 1,zw_ 6 30])))))) (zd_ [zw_ 60 5,zw_ 4 60] .ret)))))
theorem VZ :ak Tryz.prog (Tryz.f97.body.getD .skip)=some YE:=by kernel_rfl
def Dx(x:GExpr):Prop:=∀b:List ByteArray,b.length+x.toD.wt≤1048577→bZ Tryz.prog 97 [x.toD,.sl (b.map ls)] ((x.free b).map ls) 9 1
theorem Vk (x:GExpr)(hI:∀y∈x.args,Dx y):Dx x:=by
 intro b hw;have hwl:x.args.length+D.wts (x.args.map GExpr.toD)≤1048577:=by have:=x.Zq;omega
 refine fM (fn:=Tryz.f97) (t:=4) (hc:=VZ) (h:= ?_);change AWP _ _ _ (st0 61 _);rw[GExpr.free_eq];unfold YE;refine zb_ ?_;refine sS trivial ?_;have hloop:(x.kind==3 && !sJ b x.text)=false→True:=fun _=>trivial
 cases k3:(x.kind==3)with
 | true=>
   cases hh:sJ b x.text with
   | false=>
     rw[if_pos (by simp[k3,hh])]
     repeat' (first|(refine rg_ ?_;intro K hK)|(refine hq_ ?_;clear hK K)|refine ca_ ?_ ?_|refine gq_ ?_|(refine c2_ ?_ ?_<;>(intro hb hb';try(exfalso;omega)))|(refine cg_ ?_;first|refine cT_ (Iu b x.text) ?_)|refine sz_ (a3_ @GExpr.el k3 hh) ?_|refine nv ?_|exact bq_|fail)
     exact aS ⟨0,1,_,rfl,rfl,rfl,rfl,rfl,rfl,p_ rfl⟩
   | true=>
     rw[if_neg (by simp[k3,hh])]
     repeat' (first|(refine rg_ ?_;intro K hK)|(refine hq_ ?_;clear hK K)|refine ca_ ?_ ?_|refine gq_ ?_|(refine c2_ ?_ ?_<;>(intro hb hb';try(exfalso;omega)))|(refine cg_ ?_;first|refine cT_ (Iu b x.text) ?_)|refine sz_ (a3_ @GExpr.el k3 hh) ?_|refine nv ?_|exact bq_|fail)
     refine aQ (X:=Nat×Nat) (fun q=> [.d,.k,.k,.d,.d,.v (.c false [.own 0 q.2]),.v (.c false [.raw (.int .i64 (q.1:Nat))])]) (fun q=> [⟨(GExpr.frees (x.args.take q.1) b (x.inner b)).map ls,9,1,q.2,true⟩]) (fun q bs=>bs) (fun q=>q.1≤x.args.length) (fun q=>x.args.length - q.1) (0,0) (by simp) ?_ ?_
     ·simp[aG,aU,aC,aF,AV.fits,AC.fits,FB,aB,nI,GExpr.frees]
     rintro⟨i,v⟩ hi;have hi':i≤x.args.length:=hi;clear hi;simp only[FB,aB];by_cases hlt:i<x.args.length
     ·have ht:decide ((i:Int)<(x.args.length:Int))=true:=by simp;omega
      have hw1:IntKind.i64.wrap ((i:Int)+1)=((i+1:Nat):Int):=dJ (by omega);have hix:=bU GExpr.toD x.args hlt;have hmem:x.args[i]∈x.args:=n_ hlt;have hwm:=DI hmem;have hfl:=oz x.args b (x.inner b) i;have hft:=vX x.args b (x.inner b) hlt;have hil:=yT x b;by_cases hi0:i=0
      ·have g:decide ((i:Int) > 0)=false:=by simp;omega
       cases k7:(x.kind==7)with
       | true=>
         have hfa:=GExpr.ji x.args[i] (b);have hbl:(b).length≤b.length+1:=by simp
         have hfree:GExpr.frees (x.args.take (i+1)) b (x.inner b)=GExpr.frees (x.args.take i) b (x.inner b)++(x.args[i]).free (b):=by rw[hft];simp[GExpr.inner,hi0]
         have hI1:=hI x.args[i] hmem (b) (by omega)
         repeat' (first|(refine hq_ ?_;clear hK K)|refine ca_ ?_ ?_|refine gq_ ?_|(refine c2_ ?_ ?_<;>(intro hb hb';try(exfalso;omega)))|(refine cg_ ?_;first|(refine dA hI1 (bW _) ?_ ?_))|refine sz_ (a6_ @GExpr.el ht hw1 hix k7 g) ?_|refine nv ?_|(refine rD ?_;intro K hK)|exact bq_|fail)
         refine aP (i+1,v+1) ?_ ?_ ?_
         ·simp[aG,aU,aC,aF,AV.fits,AC.fits,FB,aB,hfree]
         ·show i+1≤x.args.length;omega
         ·show x.args.length - (i+1)<x.args.length - i;omega
       | false=>
         cases k9:(x.kind==9)with
         | true=>
           have hfa:=GExpr.ji x.args[i] (b);have hbl:(b).length≤b.length+1:=by simp
           have hfree:GExpr.frees (x.args.take (i+1)) b (x.inner b)=GExpr.frees (x.args.take i) b (x.inner b)++(x.args[i]).free (b):=by rw[hft];simp[GExpr.inner,hi0]
           have hI1:=hI x.args[i] hmem (b) (by omega)
           repeat' (first|(refine hq_ ?_;clear hK K)|refine ca_ ?_ ?_|refine gq_ ?_|(refine c2_ ?_ ?_<;>(intro hb hb';try(exfalso;omega)))|(refine cg_ ?_;first|(refine dA hI1 (bW _) ?_ ?_))|refine sz_ (a7_ @GExpr.el ht hw1 hix k7 k9 g) ?_|refine nv ?_|(refine rD ?_;intro K hK)|exact bq_|fail)
           refine aP (i+1,v+1) ?_ ?_ ?_
           ·simp[aG,aU,aC,aF,AV.fits,AC.fits,FB,aB,hfree]
           ·show i+1≤x.args.length;omega
           ·show x.args.length - (i+1)<x.args.length - i;omega
         | false=>
           have hfa:=GExpr.ji x.args[i] (b);have hbl:(b).length≤b.length+1:=by simp
           have hfree:GExpr.frees (x.args.take (i+1)) b (x.inner b)=GExpr.frees (x.args.take i) b (x.inner b)++(x.args[i]).free (b):=by rw[hft];simp[GExpr.inner,hi0]
           have hI1:=hI x.args[i] hmem (b) (by omega)
           repeat' (first|(refine hq_ ?_;clear hK K)|refine ca_ ?_ ?_|refine gq_ ?_|(refine c2_ ?_ ?_<;>(intro hb hb';try(exfalso;omega)))|(refine cg_ ?_;first|(refine dA hI1 (bW _) ?_ ?_))|refine sz_ (a6_ @GExpr.el ht hw1 hix k7 k9) ?_|refine nv ?_|(refine rD ?_;intro K hK)|exact bq_|fail)
           refine aP (i+1,v+1) ?_ ?_ ?_
           ·simp[aG,aU,aC,aF,AV.fits,AC.fits,FB,aB,hfree]
           ·show i+1≤x.args.length;omega
           ·show x.args.length - (i+1)<x.args.length - i;omega
      ·have g:decide ((i:Int) > 0)=true:=by simp;omega
       cases k7:(x.kind==7)with
       | true=>
         have hfa:=GExpr.ji x.args[i] (b++ [x.text]);have hbl:(b++ [x.text]).length≤b.length+1:=by simp
         have hfree:GExpr.frees (x.args.take (i+1)) b (x.inner b)=GExpr.frees (x.args.take i) b (x.inner b)++(x.args[i]).free (b++ [x.text]):=by rw[hft];simp[GExpr.inner,hi0,k7]
         have hI1:=hI x.args[i] hmem (b++ [x.text]) (by omega);simp only[o_,c_,f_]at hI1
         repeat' (first|(refine hq_ ?_;clear hK K)|refine ca_ ?_ ?_|refine gq_ ?_|(refine c2_ ?_ ?_<;>(intro hb hb';try(exfalso;omega)))|(refine cg_ ?_;first|(refine dA hI1 (bW _) ?_ ?_))|refine sz_ (a6_ @GExpr.el ht hw1 hix k7 g) ?_|refine nv ?_|(refine rD ?_;intro K hK)|exact bq_|fail)
         refine aP (i+1,v+1) ?_ ?_ ?_
         ·simp[aG,aU,aC,aF,AV.fits,AC.fits,FB,aB,hfree]
         ·show i+1≤x.args.length;omega
         ·show x.args.length - (i+1)<x.args.length - i;omega
       | false=>
         cases k9:(x.kind==9)with
         | true=>
           have hfa:=GExpr.ji x.args[i] (b++ [x.text]);have hbl:(b++ [x.text]).length≤b.length+1:=by simp
           have hfree:GExpr.frees (x.args.take (i+1)) b (x.inner b)=GExpr.frees (x.args.take i) b (x.inner b)++(x.args[i]).free (b++ [x.text]):=by rw[hft];simp[GExpr.inner,hi0,k7,k9]
           have hI1:=hI x.args[i] hmem (b++ [x.text]) (by omega);simp only[o_,c_,f_]at hI1
           repeat' (first|(refine hq_ ?_;clear hK K)|refine ca_ ?_ ?_|refine gq_ ?_|(refine c2_ ?_ ?_<;>(intro hb hb';try(exfalso;omega)))|(refine cg_ ?_;first|(refine dA hI1 (bW _) ?_ ?_))|refine sz_ (a7_ @GExpr.el ht hw1 hix k7 k9 g) ?_|refine nv ?_|(refine rD ?_;intro K hK)|exact bq_|fail)
           refine aP (i+1,v+1) ?_ ?_ ?_
           ·simp[aG,aU,aC,aF,AV.fits,AC.fits,FB,aB,hfree]
           ·show i+1≤x.args.length;omega
           ·show x.args.length - (i+1)<x.args.length - i;omega
         | false=>
           have hfa:=GExpr.ji x.args[i] (b);have hbl:(b).length≤b.length+1:=by simp
           have hfree:GExpr.frees (x.args.take (i+1)) b (x.inner b)=GExpr.frees (x.args.take i) b (x.inner b)++(x.args[i]).free (b):=by rw[hft];simp[GExpr.inner,hi0,k7,k9]
           have hI1:=hI x.args[i] hmem (b) (by omega)
           repeat' (first|(refine hq_ ?_;clear hK K)|refine ca_ ?_ ?_|refine gq_ ?_|(refine c2_ ?_ ?_<;>(intro hb hb';try(exfalso;omega)))|(refine cg_ ?_;first|(refine dA hI1 (bW _) ?_ ?_))|refine sz_ (a6_ @GExpr.el ht hw1 hix k7 k9) ?_|refine nv ?_|(refine rD ?_;intro K hK)|exact bq_|fail)
           refine aP (i+1,v+1) ?_ ?_ ?_
           ·simp[aG,aU,aC,aF,AV.fits,AC.fits,FB,aB,hfree]
           ·show i+1≤x.args.length;omega
           ·show x.args.length - (i+1)<x.args.length - i;omega
     ·have ht:decide ((i:Int)<(x.args.length:Int))=false:=by simp;omega
      repeat' (first|(refine rg_ ?_;intro K hK)|(refine hq_ ?_;clear hK K)|refine ca_ ?_ ?_|refine gq_ ?_|(refine c2_ ?_ ?_<;>(intro hb hb';try(exfalso;omega)))|refine sz_ (aiX @GExpr.el ht) ?_|refine nv ?_|exact bq_|fail)
      obtain rfl:i=x.args.length:=by omega
      exact aS ⟨0,v,_,rfl,rfl,rfl,by simp,rfl,rfl,p_ rfl⟩
 | false =>
   rw[if_neg (by simp[k3])]
   repeat' (first|(refine rg_ ?_;intro K hK)|(refine hq_ ?_;clear hK K)|refine ca_ ?_ ?_|refine gq_ ?_|(refine c2_ ?_ ?_<;>(intro hb hb';try(exfalso;omega)))|(refine cg_ ?_;first|refine cT_ (Iu b x.text) ?_)|refine sz_ (aiX @GExpr.el k3) ?_|refine nv ?_|exact bq_|fail)
   refine aQ (X:=Nat×Nat) (fun q=> [.d,.k,.k,.d,.d,.v (.c false [.own 0 q.2]),.v (.c false [.raw (.int .i64 (q.1:Nat))])]) (fun q=> [⟨(GExpr.frees (x.args.take q.1) b (x.inner b)).map ls,9,1,q.2,true⟩]) (fun q bs=>bs) (fun q=>q.1≤x.args.length) (fun q=>x.args.length - q.1) (0,0) (by simp) ?_ ?_
   ·simp[aG,aU,aC,aF,AV.fits,AC.fits,FB,aB,nI,GExpr.frees]
   rintro⟨i,v⟩ hi;have hi':i≤x.args.length:=hi;clear hi;simp only[FB,aB];by_cases hlt:i<x.args.length
   ·have ht:decide ((i:Int)<(x.args.length:Int))=true:=by simp;omega
    have hw1:IntKind.i64.wrap ((i:Int)+1)=((i+1:Nat):Int):=dJ (by omega);have hix:=bU GExpr.toD x.args hlt;have hmem:x.args[i]∈x.args:=n_ hlt;have hwm:=DI hmem;have hfl:=oz x.args b (x.inner b) i;have hft:=vX x.args b (x.inner b) hlt;have hil:=yT x b;by_cases hi0:i=0
    ·have g:decide ((i:Int) > 0)=false:=by simp;omega
     cases k7:(x.kind==7)with
     | true=>
       have hfa:=GExpr.ji x.args[i] (b);have hbl:(b).length≤b.length+1:=by simp
       have hfree:GExpr.frees (x.args.take (i+1)) b (x.inner b)=GExpr.frees (x.args.take i) b (x.inner b)++(x.args[i]).free (b):=by rw[hft];simp[GExpr.inner,hi0]
       have hI1:=hI x.args[i] hmem (b) (by omega)
       repeat' (first|(refine hq_ ?_;clear hK K)|refine ca_ ?_ ?_|refine gq_ ?_|(refine c2_ ?_ ?_<;>(intro hb hb';try(exfalso;omega)))|(refine cg_ ?_;first|(refine dA hI1 (bW _) ?_ ?_))|refine sz_ (a6_ @GExpr.el ht hw1 hix k7 g) ?_|refine nv ?_|(refine rD ?_;intro K hK)|exact bq_|fail)
       refine aP (i+1,v+1) ?_ ?_ ?_
       ·simp[aG,aU,aC,aF,AV.fits,AC.fits,FB,aB,hfree]
       ·show i+1≤x.args.length;omega
       ·show x.args.length - (i+1)<x.args.length - i;omega
     | false=>
       cases k9:(x.kind==9)with
       | true=>
         have hfa:=GExpr.ji x.args[i] (b);have hbl:(b).length≤b.length+1:=by simp
         have hfree:GExpr.frees (x.args.take (i+1)) b (x.inner b)=GExpr.frees (x.args.take i) b (x.inner b)++(x.args[i]).free (b):=by rw[hft];simp[GExpr.inner,hi0]
         have hI1:=hI x.args[i] hmem (b) (by omega)
         repeat' (first|(refine hq_ ?_;clear hK K)|refine ca_ ?_ ?_|refine gq_ ?_|(refine c2_ ?_ ?_<;>(intro hb hb';try(exfalso;omega)))|(refine cg_ ?_;first|(refine dA hI1 (bW _) ?_ ?_))|refine sz_ (a7_ @GExpr.el ht hw1 hix k7 k9 g) ?_|refine nv ?_|(refine rD ?_;intro K hK)|exact bq_|fail)
         refine aP (i+1,v+1) ?_ ?_ ?_
         ·simp[aG,aU,aC,aF,AV.fits,AC.fits,FB,aB,hfree]
         ·show i+1≤x.args.length;omega
         ·show x.args.length - (i+1)<x.args.length - i;omega
       | false=>
         have hfa:=GExpr.ji x.args[i] (b);have hbl:(b).length≤b.length+1:=by simp
         have hfree:GExpr.frees (x.args.take (i+1)) b (x.inner b)=GExpr.frees (x.args.take i) b (x.inner b)++(x.args[i]).free (b):=by rw[hft];simp[GExpr.inner,hi0]
         have hI1:=hI x.args[i] hmem (b) (by omega)
         repeat' (first|(refine hq_ ?_;clear hK K)|refine ca_ ?_ ?_|refine gq_ ?_|(refine c2_ ?_ ?_<;>(intro hb hb';try(exfalso;omega)))|(refine cg_ ?_;first|(refine dA hI1 (bW _) ?_ ?_))|refine sz_ (a6_ @GExpr.el ht hw1 hix k7 k9) ?_|refine nv ?_|(refine rD ?_;intro K hK)|exact bq_|fail)
         refine aP (i+1,v+1) ?_ ?_ ?_
         ·simp[aG,aU,aC,aF,AV.fits,AC.fits,FB,aB,hfree]
         ·show i+1≤x.args.length;omega
         ·show x.args.length - (i+1)<x.args.length - i;omega
    ·have g:decide ((i:Int) > 0)=true:=by simp;omega
     cases k7:(x.kind==7)with
     | true=>
       have hfa:=GExpr.ji x.args[i] (b++ [x.text]);have hbl:(b++ [x.text]).length≤b.length+1:=by simp
       have hfree:GExpr.frees (x.args.take (i+1)) b (x.inner b)=GExpr.frees (x.args.take i) b (x.inner b)++(x.args[i]).free (b++ [x.text]):=by rw[hft];simp[GExpr.inner,hi0,k7]
       have hI1:=hI x.args[i] hmem (b++ [x.text]) (by omega);simp only[o_,c_,f_]at hI1
       repeat' (first|(refine hq_ ?_;clear hK K)|refine ca_ ?_ ?_|refine gq_ ?_|(refine c2_ ?_ ?_<;>(intro hb hb';try(exfalso;omega)))|(refine cg_ ?_;first|(refine dA hI1 (bW _) ?_ ?_))|refine sz_ (a6_ @GExpr.el ht hw1 hix k7 g) ?_|refine nv ?_|(refine rD ?_;intro K hK)|exact bq_|fail)
       refine aP (i+1,v+1) ?_ ?_ ?_
       ·simp[aG,aU,aC,aF,AV.fits,AC.fits,FB,aB,hfree]
       ·show i+1≤x.args.length;omega
       ·show x.args.length - (i+1)<x.args.length - i;omega
     | false=>
       cases k9:(x.kind==9)with
       | true=>
         have hfa:=GExpr.ji x.args[i] (b++ [x.text]);have hbl:(b++ [x.text]).length≤b.length+1:=by simp
         have hfree:GExpr.frees (x.args.take (i+1)) b (x.inner b)=GExpr.frees (x.args.take i) b (x.inner b)++(x.args[i]).free (b++ [x.text]):=by rw[hft];simp[GExpr.inner,hi0,k7,k9]
         have hI1:=hI x.args[i] hmem (b++ [x.text]) (by omega);simp only[o_,c_,f_]at hI1
         repeat' (first|(refine hq_ ?_;clear hK K)|refine ca_ ?_ ?_|refine gq_ ?_|(refine c2_ ?_ ?_<;>(intro hb hb';try(exfalso;omega)))|(refine cg_ ?_;first|(refine dA hI1 (bW _) ?_ ?_))|refine sz_ (a7_ @GExpr.el ht hw1 hix k7 k9 g) ?_|refine nv ?_|(refine rD ?_;intro K hK)|exact bq_|fail)
         refine aP (i+1,v+1) ?_ ?_ ?_
         ·simp[aG,aU,aC,aF,AV.fits,AC.fits,FB,aB,hfree]
         ·show i+1≤x.args.length;omega
         ·show x.args.length - (i+1)<x.args.length - i;omega
       | false=>
         have hfa:=GExpr.ji x.args[i] (b);have hbl:(b).length≤b.length+1:=by simp
         have hfree:GExpr.frees (x.args.take (i+1)) b (x.inner b)=GExpr.frees (x.args.take i) b (x.inner b)++(x.args[i]).free (b):=by rw[hft];simp[GExpr.inner,hi0,k7,k9]
         have hI1:=hI x.args[i] hmem (b) (by omega)
         repeat' (first|(refine hq_ ?_;clear hK K)|refine ca_ ?_ ?_|refine gq_ ?_|(refine c2_ ?_ ?_<;>(intro hb hb';try(exfalso;omega)))|(refine cg_ ?_;first|(refine dA hI1 (bW _) ?_ ?_))|refine sz_ (a6_ @GExpr.el ht hw1 hix k7 k9) ?_|refine nv ?_|(refine rD ?_;intro K hK)|exact bq_|fail)
         refine aP (i+1,v+1) ?_ ?_ ?_
         ·simp[aG,aU,aC,aF,AV.fits,AC.fits,FB,aB,hfree]
         ·show i+1≤x.args.length;omega
         ·show x.args.length - (i+1)<x.args.length - i;omega
   ·have ht:decide ((i:Int)<(x.args.length:Int))=false:=by simp;omega
    repeat' (first|(refine rg_ ?_;intro K hK)|(refine hq_ ?_;clear hK K)|refine ca_ ?_ ?_|refine gq_ ?_|(refine c2_ ?_ ?_<;>(intro hb hb';try(exfalso;omega)))|refine sz_ (aiX @GExpr.el ht) ?_|refine nv ?_|exact bq_|fail)
    obtain rfl:i=x.args.length:=by omega
    exact aS ⟨0,v,_,rfl,rfl,rfl,by simp,rfl,rfl,p_ rfl⟩
theorem Q8 :∀(n:Nat) (x:GExpr),x.toD.wt<n→Dx x:=by
 intro n
 induction n with
 |zero=>intro x h;omega
 | succ n ih=>
   intro x h;exact Vk x (fun y hy=>ih y (by have:=DI hy;omega))
theorem Q7(x:GExpr):Dx x:=Q8 _ x (u_ _)
theorem wM.own{l:List ByteArray}{w w':World}{en:Ending}(h:wM l w en w'):uo false (l.map ls) 9 1 w en w':=by
 obtain⟨f,v,rfl,⟨cs,h1,h2,h3,h4⟩,h5⟩:=h;exact⟨v,cs,f,rfl,bF.of h1,h2,fun b hb=>⟨fun e=>h4 b e.symm hb,(h3.2 b hb).1⟩,h5⟩
theorem GExpr.Jt(x:GExpr)(b:List ByteArray):(x.free b).length≤max 1 x.toD.wt:=by
 rw[GExpr.free_eq];split
 ·simp;omega
 ·have:=GExpr.vw x.args b (x.inner b);have:=x.Zq;omega
theorem BD(l:List ByteArray)(hn:l.length≤1048576):bZ Tryz.prog 68 [.sl (l.map ls)] ((BG l).map ls) 9 1:=fun w vs hr _=>by
 obtain⟨v,rfl,h1⟩:=Qr hr;obtain⟨fp,hS⟩:=xI h1;exact(zW l fp v w hS hn).mono fun _ _ h=>h.own
theorem BF(l:List ByteArray)(hn:l.length≤1048576):bZ Tryz.prog 67 [.sl (l.map ls)] ((BG l).map ls) 9 1:=fun w vs hr _=>by
 obtain⟨v,rfl,h1⟩:=Qr hr;obtain⟨fp,hS⟩:=xI h1;exact(zX l fp v w hS hn).mono fun _ _ h=>h.own
def CV :IC:=(zd_ [zz_ 1 (.box (.t 0)),zz_ 2 (.mov (.k (.slice none 0 0)))] (zd_ [zr_ 3 4 1,zz_ 4 (.brow false 9 1 0 false []),zp_ 5 97 3 4,zq_ 6 68 5,zw_ 2 6] .ret))
theorem F7 :ak Tryz.prog (Tryz.f69.body.getD .skip)=some CV:=by kernel_rfl
theorem tV(x:GExpr)(hw:x.toD.wt≤1048576):bZ Tryz.prog 69 [x.toD] ((BG (x.free [])).map ls) 9 1:=by
 refine fM (fn:=Tryz.f69) (t:=2) (hc:=F7) (h:= ?_);change AWP _ _ _ (st0 7 _);have hm:=x.Jt [];unfold CV;refine zb_ ?_;refine sS (aiX @GExpr.aV (aiX @GExpr.aK (aiX @GExpr.aW (aiX @GPart.aV (aiX @GPart.aK @GPart.aW))))) ?_
 repeat' (first|(refine hq_ ?_;clear hK K)|refine ca_ ?_ ?_|refine gq_ ?_|(refine c2_ ?_ ?_<;>(intro hb hb';try(exfalso;omega)))|(refine cg_ ?_;first|(refine dA (Q7 x [] (by simp;omega)) (bW _) ?_ ?_)|(refine dA (BD (x.free []) (by omega)) (bW _) ?_ ?_))|refine sz_ (aiX @GExpr.el @GPart.el) ?_|refine nv ?_|(refine rD ?_;intro K hK)|exact bq_|fail)
 exact aS ⟨1,0,_,rfl,rfl,rfl,rfl,rfl,rfl,p_ rfl⟩
def cZ(x:GPart):List ByteArray:=if x.kind==2 then BG (x.expr.free [])else []
theorem La(x:GPart)(hw:x.expr.toD.wt≤1048576):(cZ x).length≤1048576:=by
 unfold cZ;split
 ·have:=Lj (x.expr.free []);have:=x.expr.Jt [];omega
 ·simp
def CB :IC:=(zd_ [zz_ 1 (.box (.t 0)),zz_ 2 (.mov (.k (.slice none 0 0)))] (.seq (zd_ [zt_ 3 0 1,zs_ 4 1 3,zm_ 5 .neq 4 2] (.cond (.t 5) (zd_ [zz_ 6 (.brow true 9 1 0 false []),zw_ 2 6] .ret) .skip)) (zd_ [zt_ 7 2 1,zr_ 8 4 7,zq_ 9 69 8,zw_ 2 9] .ret)))
theorem FW :ak Tryz.prog (Tryz.f35.body.getD .skip)=some CB:=by kernel_rfl
theorem G5(x:GPart)(hw:x.expr.toD.wt≤1048576):bZ Tryz.prog 35 [x.toD] ((cZ x).map ls) 9 1:=by
 refine fM (fn:=Tryz.f35) (t:=2) (hc:=FW) (h:= ?_);change AWP _ _ _ (st0 10 _);unfold CB;refine zb_ ?_;refine sS (aiX @GExpr.aV (aiX @GExpr.aK (aiX @GExpr.aW (aiX @GPart.aV (aiX @GPart.aK @GPart.aW))))) ?_;cases k:(x.kind==2)with
 | true=>
   have kn:(x.kind !=2)=false:=by simp only[bne,k];rfl
   have hU:cZ x=BG (x.expr.free []):=by simp[cZ,k]
   rw[hU]
   repeat' (first|(refine hq_ ?_;clear hK K)|refine ca_ ?_ ?_|refine gq_ ?_|(refine c2_ ?_ ?_<;>(intro hb hb';try(exfalso;omega)))|(refine cg_ ?_;first|(refine dA (tV x.expr hw) (bW _) ?_ ?_))|refine sz_ (a4_ @GExpr.el @GPart.el k kn) ?_|refine nv ?_|(refine rD ?_;intro K hK)|exact bq_|fail)
   exact aS ⟨0,0,_,rfl,rfl,rfl,rfl,rfl,rfl,p_ rfl⟩
 | false=>
   have kn:(x.kind !=2)=true:=by simp only[bne,k];rfl
   have hU:cZ x= []:=by simp[cZ,k]
   rw[hU]
   repeat' (first|(refine hq_ ?_;clear hK K)|refine ca_ ?_ ?_|refine gq_ ?_|(refine c2_ ?_ ?_<;>(intro hb hb';try(exfalso;omega)))|(refine cg_ ?_;first|(refine dA (tV x.expr hw) (bW _) ?_ ?_))|refine sz_ (a4_ @GExpr.el @GPart.el k kn) ?_|refine nv ?_|(refine rD ?_;intro K hK)|exact bq_|fail)
   exact aS ⟨0,0,_,rfl,rfl,rfl,rfl,rfl,rfl,p_ rfl⟩
theorem Cj :∀(l:List ByteArray) (s:ByteArray) (k:Nat),(decide (jZ l s k<0))= !sJ l s
 | [],s,k=>by simp[jZ,sJ]
 | x::l,s,k=>by
   rw[jZ,sJ];by_cases h:x=s
   ·rw[if_pos h];simp[h]
   ·rw[if_neg h,Cj l s (k+1)];simp[h]
theorem adh(l:List ByteArray)(s:ByteArray):decide (Eb l s<0)= !sJ l s:=Cj l s 0
theorem IG(l:List ByteArray)(s:ByteArray):aI Tryz.prog 95 [.sl (l.map ls),ls s] (.c false [.raw (.int .i64 (Eb l s))]):=Gl fun w vs hr=>by
 obtain⟨v,u,rfl,h1,h2⟩:=Qq hr;obtain⟨fp,hS⟩:=xI h1;obtain rfl:=pX h2;exact Ci l s fp v w hS
def YJ :IC:=(.reg false [zs_ 5 1 2,zw_ 6 0,zz_ 7 (.brow false 9 1 1 false [(.t 6)]),zz_ 8 (.app 9 1 (.t 5) (.t 7)),⟨none,none,.store 1 (.t 2) (.t 8)⟩])
theorem V7 :ak Tryz.prog (Tryz.f107.body.getD .skip)=some YJ:=by kernel_rfl
abbrev abm :AV:= .c false [.raw (.tuple #[])]
abbrev nS(l:List ByteArray)(v:Nat):Own:=⟨l.map ls,9,1,v,true⟩
theorem Pn(pb:List AC)(hpb:∀n m,pb.all (AC.fits n m)=true)(l:List ByteArray)(s:ByteArray)(bv:AV)(ver:Nat)(ox:List Own)(bx:List (List AC))(hl:l.length≤4000000)(hb:iD (ox.length+1) (bx.length+2) bx):
 gZ Tryz.prog 107 [.c false [.raw (.string s)],bv,.bptr 1 0] (nS l ver::ox) (pb::[.own 0 ver]::bx) abm (nS (l++ [s]) (ver+1)::ox) (pb::[.own 0 (ver+1)]::bx):=by
 refine Po (fn:=Tryz.f107) (rs:= []) (by kernel_rfl) (by kernel_rfl) (by kernel_rfl) V7 (by simp) (by simp) ?_;unfold YJ;refine zb_ ?_;change dH _ _ _ _ (stS 9 _ _ _);simp only[undef,stS,st0,stN,D.av,D.avN,dD,bf,dG,dF,dK,bV,bP,bM,GExpr.aV,GExpr.aK,GExpr.aW,GExpr.el,GPart.aV,GPart.aK,GPart.aW,GPart.el,c_,f_,k_,i_,g_,d_,h_,l_,m_]
 repeat' (first|(refine hq_ ?_;clear hK K)|refine ca_ ?_ ?_|refine gq_ ?_|(refine c2_ ?_ ?_<;>(intro hb hb';try(exfalso;omega)))|refine sz_ (a9_ @GExpr.el @GPart.el @lZ @lJ @nR @lI @b_.{0} @e_ @a_.{0}) ?_|refine nv ?_|(refine rD ?_;intro K hK)|exact bq_|fail)
 refine⟨?_, ?_, ?_,rfl⟩
 ·simp[aC,fV,nS,ls]
 ·exact⟨rfl,rfl,mY bx⟩
 ·simp only[iD]at hb;simp only[j_,hpb,Bool.true_and];simp[AC.fits,hb]
def RF :IC:=(zd_ [zz_ 4 (.box (.t 1))] (.seq (zd_ [zt_ 10 0 4,zs_ 11 1 10,zm_ 12 .eql 11 3,zw_ 13 12,zv_ 14 13 2,zy_ 15 13 (.fad 2 (.t 4)),zy_ 16 13 (.load 1 false (.t 15)),zy_ 17 13 (.call 95 [(.t 14),(.t 16)]),zy_ 18 13 (.bin .lss (.t 17) (.k (.int .i64 0))),zh_ 19 13 18 false] (.cond (.t 19) (zd_ [zw_ 20 0,zi_ 21 20,zt_ 22 0 21,zs_ 23 1 22,zz_ 24 (.fnil true (.t 23))] (.cond (.t 24) (.seq (.reg true [zw_ 25 0,zi_ 26 25,zt_ 27 0 26,zs_ 28 1 27,zt_ 29 2 4,zs_ 30 1 29,zw_ 31 2,zz_ 32 (.callv (.t 28) [(.t 30),(.t 31)])]) .ret) .skip)) .skip)) (zd_ [zt_ 33 0 4,zs_ 34 1 33,zm_ 35 .eql 34 7,zw_ 36 35,zx_ 37 36 (.fad 0 (.t 4)),zx_ 38 36 (.load 1 false (.t 37)),zx_ 39 36 (.bin .eql (.t 38) (.k (.int .i64 9))),zg_ 40 36 true 39,zw_ 6 40] (.seq (zd_ [zw_ 41 6,zw_ 42 41,zv_ 43 42 0,zy_ 44 42 (.nck (.t 43)),zy_ 45 42 (.fad 1 (.t 44)),zy_ 46 42 (.load 1 false (.t 45)),zy_ 47 42 (.fnil true (.t 46)),zh_ 48 42 47 false] (.cond (.t 48) (.reg true [zw_ 49 0,zi_ 50 49,zt_ 51 1 50,zs_ 52 1 51,zt_ 53 2 4,zs_ 54 1 53,zz_ 55 (.callv (.t 52) [(.t 54)])]) .skip)) (zd_ [zt_ 56 3 4,zs_ 57 1 56,zf_ 58 false 57,zk_ 59 0] (.block 0 (.loop (zd_ [zl_ 60 .lss 59 58] (.seq (.cond (.t 60) .skip (.exit 0)) (.seq (.block 1 (zd_ [zw_ 61 59,ze_ 62 4 57 59,zr_ 63 4 62,zz_ 8 (.alloc [(.int .i64 0),(.int .i64 0),(.string ⟨#[]⟩),(.slice none 0 0)]),zw_ 7 61,⟨none,none,.store 4 (.t 8) (.t 63)⟩] (zd_ [zw_ 64 2,zw_ 9 64] (.seq (zd_ [zw_ 65 6,zw_ 66 65,zv_ 67 66 7,zy_ 68 66 (.bin .gtr (.t 67) (.k (.int .i64 0))),zh_ 69 66 68 false] (.cond (.t 69) (.reg true [zz_ 70 (.brow true 9 1 0 false []),zw_ 71 2,zz_ 72 (.app 9 1 (.t 70) (.t 71)),zt_ 73 2 4,zs_ 74 1 73,zz_ 75 (.brow false 9 1 1 false [(.t 74)]),zz_ 76 (.app 9 1 (.t 72) (.t 75)),zw_ 9 76]) .skip)) (.reg false [zw_ 77 0,zr_ 78 4 8,zw_ 79 9,zo_ 80 108 77 78 79]))))) (.reg false [zm_ 81 .add 59 1,zw_ 59 81])))))))))))
theorem RD :ak Tryz.prog (Tryz.f108.body.getD .skip)=some RF:=by kernel_rfl
def BV(ox:List Own)(b:List ByteArray)(bv:AV):Prop:=(∃nb,bv= .c false [.sl nb (b.map ls)])∨∃k i o,bv= .c false [.own (k+1) i]∧ox[k]? =some o∧o.ver=i∧o.l=b.map ls
abbrev WH(pb:List AC)(v:Nat)(bx:List (List AC)):List (List AC):=pb::[.own 0 v]::[.cl 107 [1],.raw .nilFunc]::bx
def NH(pb:List AC)(x:GExpr):Prop:=∀(b l:List ByteArray) (bv:AV) (ver:Nat) (ox:List Own) (bx:List (List AC)),BV ox b bv→l.length+x.toD.wt≤2000000→b.length+x.toD.wt≤2000000→iD (ox.length+1) (bx.length+3) bx→
 gZ Tryz.prog 108 [.bptr 2 0,x.toD.av,bv] (nS l ver::ox) (WH pb ver bx) abm (nS (l++x.free b) (ver+(x.free b).length)::ox) (WH pb (ver+(x.free b).length) bx)
theorem ahc{ox:List Own}{b:List ByteArray}{nb:Bool}:BV ox b (.c false [.sl nb (b.map ls)]):=p_ ⟨_,rfl⟩
theorem ahW{ox:List Own}{b:List ByteArray}{k i:Nat}{o:Own}(h:ox[k]? =some o)(h1:o.ver=i)(h2:o.l=b.map ls):BV ox b (.c false [.own (k+1) i]):=Or.inr ⟨k,i,o,rfl,h,h1,h2⟩
theorem Zh{ox:List Own}{b:List ByteArray}{i:Nat}{o:Own}(h1:o.ver=i)(h2:o.l=b.map ls):BV (ox++ [o]) b (.c false [.own (ox.length+1) i]):=Or.inr ⟨ox.length,i,o,rfl,by simp,h1,h2⟩
theorem vI :∀(l:List D) (i:Nat) (h:i<l.length),D.wts (l.take i)+(l[i]).wt≤D.wts l
 |d::l,0,h=>by simp[D.wts]
 | d::l,i+1,h=>by
   have:=vI l i (by simpa using h);simp only[s_,D.wts,List.getElem_cons_succ];omega
theorem Js(x:GExpr)(b:List ByteArray){q:Nat}(h:q<x.args.length):(GExpr.frees (x.args.take q) b (x.inner b)).length+x.args[q].toD.wt≤x.toD.wt:=by
 have h1:=GExpr.vw (x.args.take q) b (x.inner b);have h2:=vI (x.args.map GExpr.toD) q (by simpa using h);have h3:=x.Zq;rw[← y_,v_]at h2;have h4:(x.args.take q).length≤x.args.length:=by rw[q_];omega
 omega
theorem iy{n m:Nat}{bx cx:List (List AC)}(h:iD n m bx)(h2:iD n m cx):iD n m (bx++cx):=by
 simp only[iD,List.all_append,Bool.and_eq_true]at h h2⊢;exact⟨h,h2⟩
theorem afX{pb:List AC}(hpb:∀n m,pb.all (AC.fits n m)=true){n m m' v:Nat}{bx cx:List (List AC)}(h:iD n m' bx)(hn:0<n)(hm:m'≤m)(hm0:1<m')(hc:iD n m cx):iD n m (WH pb v (bx++cx)):=
 iy (bx:= [_,_,_]) (by simp only[iD,j_,hpb];simp[AC.fits];exact⟨hn,Nat.lt_of_lt_of_le hm0 hm⟩) (iy (h.mono (Nat.le_refl _) hm) hc)
theorem abd(pb:List AC)(hpb:∀n m,pb.all (AC.fits n m)=true)(x:GExpr)(hI:∀y∈x.args,NH pb y):NH pb x:=by
 intro b l bv ver ox bx hbv hwl hwb hfit;have hwe:=x.Zq;refine Po (fn:=Tryz.f108) (rs:= []) (by kernel_rfl) (by kernel_rfl) (by kernel_rfl) RD (by simp) (by simp) ?_;unfold RF;refine zb_ ?_;change dH _ _ _ _ (stS 82 _ _ _);have hneg:=adh b x.text;have hfree0:=x.free_eq b;rcases hbv with⟨nb,rfl⟩|⟨k,i,o,rfl,hk,hki,hkl⟩
 ·simp only[undef,stS,st0,stN,D.av,D.avN,dD,bf,dG,dF,dK,bV,bP,bM,GExpr.aV,GExpr.aK,GExpr.aW,GExpr.el,GPart.aV,GPart.aK,GPart.aW,GPart.el,c_,f_,k_,i_,g_,d_,h_,l_,m_]
  repeat' (first|(refine hq_ ?_;clear hK K)|refine ca_ ?_ ?_|refine gq_ ?_|(refine c2_ ?_ ?_<;>(intro hb hb';try(exfalso;omega)))|(refine cg_ ?_;first|refine cT_ (IG b x.text) ?_)|((with_reducible refine Ub ?_);first|(refine callV ?_ (Pn pb hpb l x.text _ ver ox _ ?_ ?_) ?_))|((with_reducible refine JJ ?_);first|(refine JV ?_ (Pn pb hpb l x.text _ ver ox _ ?_ ?_) ?_))|refine sz_ (WU @GExpr.el @GPart.el @lZ @lJ @nR @lI @b_.{0} @e_ @a_.{0} hneg) ?_|refine nv ?_|(refine rD ?_;intro K hK)|exact bq_|fail)
  ·with_reducible refine Pq ?_
   refine iy (bx:= [_]) (by simp[iD,AC.fits]) (iy (hfit.mono (by omega) (by simp)) (by simp[iD,AC.fits]))
  ·have hfr:x.free b= [x.text]:=by rw[hfree0];simp[*]
   rw[hfr];refine aS ⟨⟨⟨rfl,rfl,rfl,rfl,rfl⟩,fV _⟩,⟨rfl,rfl,rfl,zf _ _⟩, ?_,rfl⟩;refine iy (bx:= [_,_,_]) (by simp only[iD,j_,hpb];simp[AC.fits]) (hfit.mono (by simp) (by simp))
  all_goals
   (have hfr:x.free b=GExpr.frees x.args b (x.inner b):=by rw[hfree0];simp[*]
    rw[hfr];refine gW (X:=Nat) (fun q=> [.k,.d,.k,.d,.k,.d,.k,.d,.d,.d,.d,.d,.d,.d,.d,.d,.d,.d,.d,.d,.d,.d,.d,.d,.d,.d,.d,.d,.d,.d,.d,.d,.d,.d,.d,.d,.d,.d,.d,.d,.d,.d,.d,.d,.d,.d,.d,.d,.d,.d,.d,.d,.d,.d,.d,.d,.d,.k,.k,.v (.c false [.raw (.int .i64 (q:Nat))])]) (fun q=>nS (l++GExpr.frees (x.args.take q) b (x.inner b)) (ver+(GExpr.frees (x.args.take q) b (x.inner b)).length)::ox)
     (fun q bs=>WH pb (ver+(GExpr.frees (x.args.take q) b (x.inner b)).length) (bx++ [[AC.raw (Value.int r_ x.kind),AC.raw (Value.int r_ x.n),AC.raw (Value.string x.text),AC.sl false (C_ GExpr.toD x.args)]])) (fun q=>q≤x.args.length) (fun q=>x.args.length - q) 0 (A_ _) (by intro q;simp) ?_ ?_
    ·refine⟨?_, ?_, ?_, ?_⟩
     ·simp[aU,AV.fits,AC.fits,FB,aB]
     ·simp[FB,aC,fV,nI,nS]
     ·simp[FB,aF,mY,nI]
     ·exact afX hpb (m':=bx.length+3) hfit (by simp[FB]) (by simp[FB]) (by simp) (by simp[iD,AC.fits,FB])
    intro q hq;have hq':q≤x.args.length:=hq;clear hq;simp only[FB,aB];by_cases hlt:q<x.args.length
    ·have hmem:=n_ hlt;have hV:=hI x.args[q] hmem;have hwm:=DI hmem;have hft:=vX x.args b (x.inner b) hlt;have hfl:=oz x.args b (x.inner b) q;have hil:=yT x b;have hroom:=Js x b hlt;simp only[NH,D.av,GExpr.aW,GExpr.aV]at hV
     repeat' (first|(refine hq_ ?_;clear hK K)|refine ca_ ?_ ?_|refine gq_ ?_|(refine c2_ ?_ ?_<;>(intro hb hb';try(exfalso;omega)))|(refine cg_ ?_;first|(refine callS (hV b _ _ _ _ _ ahc ?_ ?_ ?_) ?_)|(refine callS (hV (b++ [x.text]) _ _ _ _ _ (Zh rfl (by simp[ls])) ?_ ?_ ?_) ?_))|refine sz_ (a9_ @GExpr.el @GPart.el @lZ @lJ @nR @lI @b_.{0} @e_ @a_.{0}) ?_|refine nv ?_|(refine rD ?_;intro K hK)|exact bq_|fail)
     all_goals first
      |(simp only[a_,d_,h_];omega)
      | (with_reducible refine Pq ?_
         first
          |exact iy (hfit.mono (by simp) (by simp)) (by simp[iD,AC.fits])
          |exact iy (hfit.mono (by simp;omega) (by simp;omega)) (by simp[iD,AC.fits]))
      | (first
          |(have hfree:GExpr.frees (x.args.take (q+1)) b (x.inner b)=GExpr.frees (x.args.take q) b (x.inner b)++(x.args[q]).free b:=by
              rw[hft];by_cases h0:q=0<;>first|(exfalso;omega)|(simp[h0,GExpr.inner, *];done))
          |(have hfree:GExpr.frees (x.args.take (q+1)) b (x.inner b)=GExpr.frees (x.args.take q) b (x.inner b)++(x.args[q]).free (b++ [x.text]):=by
              rw[hft];by_cases h0:q=0<;>first|(exfalso;omega)|(simp[h0,GExpr.inner, *];done))
         have hfl2:=congrArg B_ hfree;rw[a_]at hfl2;refine aP (q+1) ⟨?_, ?_, ?_, ?_⟩ (show q+1≤x.args.length by omega) (show x.args.length - (q+1)<x.args.length - q by omega)
         ·simp[aU,AV.fits,AC.fits,FB,aB]
         ·refine⟨⟨?_,rfl,rfl, ?_,rfl⟩, ?_⟩
          ·first|(rw[hfree];done)|(rw[hfree];simp[nS])
          ·first|(simp only[nS];omega)|(simp only[nS,hfl2];omega)|(simp[nS,hfl2];omega)
          ·first|exact fV _|exact Lu _ _
         ·refine⟨rfl, ?_,rfl,zh _ ⟨rfl,trivial⟩⟩;simp only[List.cons.injEq,AC.own.injEq,and_true,true_and];omega
         ·exact afX hpb (m':=bx.length+3) hfit (by simp[FB]) (by simp[FB]) (by simp) (by simp[iD,AC.fits,FB]))
    ·obtain rfl:q=x.args.length:=by omega
     repeat' (first|(refine hq_ ?_;clear hK K)|refine ca_ ?_ ?_|refine gq_ ?_|(refine c2_ ?_ ?_<;>(intro hb hb';try(exfalso;omega)))|refine sz_ (a9_ @GExpr.el @GPart.el @lZ @lJ @nR @lI @b_.{0} @e_ @a_.{0}) ?_|refine nv ?_|(refine rD ?_;intro K hK)|exact bq_|fail)
     simp only[w_];exact Nb ⟨⟨⟨rfl,rfl,rfl,rfl,rfl⟩,fV _⟩,⟨rfl,rfl,rfl,zf _ _⟩,iy (bx:= [_,_,_]) (by simp only[iD,j_,hpb];simp[AC.fits]) (hfit.mono (by simp) (by simp)),rfl⟩)
 ·obtain rfl:=hki;have hkn:k<ox.length:=(List.getElem?_eq_some_iff.1 hk).1;have hka:∀ys:List Own,(ox++ys)[k]? =some o:=fun ys=>by rw[List.getElem?_append_left hkn];exact hk
  simp only[undef,stS,st0,stN,D.av,D.avN,dD,bf,dG,dF,dK,bV,bP,bM,GExpr.aV,GExpr.aK,GExpr.aW,GExpr.el,GPart.aV,GPart.aK,GPart.aW,GPart.el,c_,f_,k_,i_,g_,d_,h_,l_,m_]
  repeat' (first|(refine hq_ ?_;clear hK K)|refine ca_ ?_ ?_|refine gq_ ?_|(refine c2_ ?_ ?_<;>(intro hb hb';try(exfalso;omega)))|(refine cg_ ?_;first|refine bT (hc:=IG b x.text) (ha:=by(simp[bD,oW,jM,mZ,AC.toD,dR,bJ,dI,dQ,Value.oneCell',kK,gI,kM,kL,dD,bf,dG,dF,zq,zu,GExpr.aV,hk,hka,hkl];first|done|rfl)) (h:= ?_))|((with_reducible refine Ub ?_);first|(refine callV ?_ (Pn pb hpb l x.text _ ver ox _ ?_ ?_) ?_))|((with_reducible refine JJ ?_);first|(refine JV ?_ (Pn pb hpb l x.text _ ver ox _ ?_ ?_) ?_))|refine sz_ (a5_ @GExpr.el @GPart.el @lZ @lJ (a9_ @nR @lI @b_.{0} @e_ @a_.{0} hneg hk hka hkl)) ?_|refine nv ?_|(refine rD ?_;intro K hK)|exact bq_|fail)
  ·with_reducible refine Pq ?_
   refine iy (bx:= [_]) (by simp[iD,AC.fits]) (iy (hfit.mono (by omega) (by simp)) (by simp[iD,AC.fits]))
  ·have hfr:x.free b= [x.text]:=by rw[hfree0];simp[*]
   rw[hfr];refine aS ⟨⟨⟨rfl,rfl,rfl,rfl,rfl⟩,fV _⟩,⟨rfl,rfl,rfl,zf _ _⟩, ?_,rfl⟩;refine iy (bx:= [_,_,_]) (by simp only[iD,j_,hpb];simp[AC.fits]) (hfit.mono (by simp) (by simp))
  all_goals
   (have hfr:x.free b=GExpr.frees x.args b (x.inner b):=by rw[hfree0];simp[*]
    rw[hfr];refine gW (X:=Nat) (fun q=> [.k,.d,.k,.d,.k,.d,.k,.d,.d,.d,.d,.d,.d,.d,.d,.d,.d,.d,.d,.d,.d,.d,.d,.d,.d,.d,.d,.d,.d,.d,.d,.d,.d,.d,.d,.d,.d,.d,.d,.d,.d,.d,.d,.d,.d,.d,.d,.d,.d,.d,.d,.d,.d,.d,.d,.d,.d,.k,.k,.v (.c false [.raw (.int .i64 (q:Nat))])]) (fun q=>nS (l++GExpr.frees (x.args.take q) b (x.inner b)) (ver+(GExpr.frees (x.args.take q) b (x.inner b)).length)::ox)
     (fun q bs=>WH pb (ver+(GExpr.frees (x.args.take q) b (x.inner b)).length) (bx++ [[AC.raw (Value.int r_ x.kind),AC.raw (Value.int r_ x.n),AC.raw (Value.string x.text),AC.sl false (C_ GExpr.toD x.args)]])) (fun q=>q≤x.args.length) (fun q=>x.args.length - q) 0 (A_ _) (by intro q;simp) ?_ ?_
    ·refine⟨?_, ?_, ?_, ?_⟩
     ·simp[aU,AV.fits,AC.fits,FB,aB,hkn]
     ·simp[FB,aC,fV,nI,nS]
     ·simp[FB,aF,mY,nI]
     ·exact afX hpb (m':=bx.length+3) hfit (by simp[FB]) (by simp[FB]) (by simp) (by simp[iD,AC.fits,FB])
    intro q hq;have hq':q≤x.args.length:=hq;clear hq;simp only[FB,aB];by_cases hlt:q<x.args.length
    ·have hmem:=n_ hlt;have hV:=hI x.args[q] hmem;have hwm:=DI hmem;have hft:=vX x.args b (x.inner b) hlt;have hfl:=oz x.args b (x.inner b) q;have hil:=yT x b;have hroom:=Js x b hlt;simp only[NH,D.av,GExpr.aW,GExpr.aV]at hV
     repeat' (first|(refine hq_ ?_;clear hK K)|refine ca_ ?_ ?_|refine gq_ ?_|(refine c2_ ?_ ?_<;>(intro hb hb';try(exfalso;omega)))|(refine cg_ ?_;first|(refine callS (hV b _ _ _ _ _ (ahW hk rfl hkl) ?_ ?_ ?_) ?_)|(refine callS (hV (b++ [x.text]) _ _ _ _ _ (Zh rfl (by simp[ls])) ?_ ?_ ?_) ?_))|refine sz_ (a4_ @GExpr.el @GPart.el @lZ (a9_ @lJ @nR @lI @b_.{0} @e_ @a_.{0} hk hka hkl)) ?_|refine nv ?_|(refine rD ?_;intro K hK)|exact bq_|fail)
     all_goals first
      |(simp only[a_,d_,h_];omega)
      | (with_reducible refine Pq ?_
         first
          |exact iy (hfit.mono (by simp) (by simp)) (by simp[iD,AC.fits])
          |exact iy (hfit.mono (by simp;omega) (by simp;omega)) (by simp[iD,AC.fits]))
      | (first
          |(have hfree:GExpr.frees (x.args.take (q+1)) b (x.inner b)=GExpr.frees (x.args.take q) b (x.inner b)++(x.args[q]).free b:=by
              rw[hft];by_cases h0:q=0<;>first|(exfalso;omega)|(simp[h0,GExpr.inner, *];done))
          |(have hfree:GExpr.frees (x.args.take (q+1)) b (x.inner b)=GExpr.frees (x.args.take q) b (x.inner b)++(x.args[q]).free (b++ [x.text]):=by
              rw[hft];by_cases h0:q=0<;>first|(exfalso;omega)|(simp[h0,GExpr.inner, *];done))
         have hfl2:=congrArg B_ hfree;rw[a_]at hfl2;refine aP (q+1) ⟨?_, ?_, ?_, ?_⟩ (show q+1≤x.args.length by omega) (show x.args.length - (q+1)<x.args.length - q by omega)
         ·simp[aU,AV.fits,AC.fits,FB,aB,hkn]
         ·refine⟨⟨?_,rfl,rfl, ?_,rfl⟩, ?_⟩
          ·first|(rw[hfree];done)|(rw[hfree];simp[nS])
          ·first|(simp only[nS];omega)|(simp only[nS,hfl2];omega)|(simp[nS,hfl2];omega)
          ·first|exact fV _|exact Lu _ _
         ·refine⟨rfl, ?_,rfl,zh _ ⟨rfl,trivial⟩⟩;simp only[List.cons.injEq,AC.own.injEq,and_true,true_and];omega
         ·exact afX hpb (m':=bx.length+3) hfit (by simp[FB]) (by simp[FB]) (by simp) (by simp[iD,AC.fits,FB]))
    ·obtain rfl:q=x.args.length:=by omega
     repeat' (first|(refine hq_ ?_;clear hK K)|refine ca_ ?_ ?_|refine gq_ ?_|(refine c2_ ?_ ?_<;>(intro hb hb';try(exfalso;omega)))|refine sz_ (a4_ @GExpr.el @GPart.el @lZ (a9_ @lJ @nR @lI @b_.{0} @e_ @a_.{0} hk hka hkl)) ?_|refine nv ?_|(refine rD ?_;intro K hK)|exact bq_|fail)
     simp only[w_];exact Nb ⟨⟨⟨rfl,rfl,rfl,rfl,rfl⟩,fV _⟩,⟨rfl,rfl,rfl,zf _ _⟩,iy (bx:= [_,_,_]) (by simp only[iD,j_,hpb];simp[AC.fits]) (hfit.mono (by simp) (by simp)),rfl⟩)
theorem GPart.expr_wt(x:GPart):x.expr.toD.wt≤x.toD.wt:=by
 simp only[GPart.aN,D.wt,D.wts];omega
theorem Zr(pb:List AC)(hpb:∀n m,pb.all (AC.fits n m)=true):∀(n:Nat) (x:GExpr),x.toD.wt<n→NH pb x:=by
 intro n
 induction n with
 |zero=>intro x h;omega
 | succ n ih=>
   intro x h;exact abd pb hpb x (fun y hy=>ih y (by have:=DI hy;omega))
theorem ae0(pb:List AC)(hpb:∀n m,pb.all (AC.fits n m)=true)(x:GExpr):NH pb x:=Zr pb hpb _ x (u_ _)
theorem ae1(pb:List AC)(hpb:∀n m,pb.all (AC.fits n m)=true)(x:GExpr)(hw:x.toD.wt≤1048576):
 gZ Tryz.prog 108 [.bptr 2 0,.c true (x.toD.acs false),.c false [.raw (.slice none 0 0)]] [nS [] 0] (WH pb 0 []) abm [nS (x.free []) (x.free []).length] (WH pb (x.free []).length []):=by
 have h:=ae0 pb hpb x [] [] (.c false [.sl true []]) 0 [] [] ahc (by simp;omega) (by simp;omega) (by simp[iD]);simp only[g_,Nat.zero_add,D.av,GExpr.aW]at h;refine Ui h fun E w vs hv=> ?_
 match vs,hv with
 | [v1,v2,v3],hv=>exact⟨hv.1,hv.2.1,ahC hv.2.2.1,trivial⟩
def Sv :IC:=(zd_ [zz_ 1 (.box (.t 0)),zz_ 2 (.mov (.k (.slice none 0 0)))] (zd_ [zz_ 5 (.brow true 9 1 0 false []),zz_ 3 (.alloc [(.slice none 0 0)]),⟨none,none,.store 1 (.t 3) (.t 5)⟩] (zd_ [zz_ 6 (.mkf 107 [(.t 3)]),zz_ 7 (.bld [.nilFunc,.nilFunc] [(0,1,(.t 6))]),zz_ 8 (.box (.t 7)),zw_ 4 8] (zd_ [zw_ 9 4,zr_ 10 4 1,zz_ 11 (.call 108 [(.t 9),(.t 10),(.k (.slice none 0 0))])] (zd_ [zs_ 12 1 3,zq_ 13 67 12,zw_ 2 13] .ret)))))
theorem Sr :ak Tryz.prog (Tryz.f94.body.getD .skip)=some Sv:=by kernel_rfl
theorem CX(x:GExpr)(hw:x.toD.wt≤1048576):bZ Tryz.prog 94 [x.toD] ((BG (x.free [])).map ls) 9 1:=by
 refine fM (fn:=Tryz.f94) (t:=2) (hc:=Sr) (h:= ?_);change AWP _ _ _ (st0 14 _);have hm:=x.Jt [];have hv:=ae1 (x.toD.acs false) (fun n m=>by simp[GExpr.aV,AC.fits]) x hw;unfold Sv;refine zb_ ?_;simp only[GExpr.aV]at hv;simp only[undef,stS,st0,stN,D.av,D.avN,dD,bf,dG,dF,dK,bV,bP,bM,GExpr.aV,GExpr.aK,GExpr.aW,GExpr.el,GPart.aV,GPart.aK,GPart.aW,GPart.el,c_,f_,k_,i_,g_,d_,h_,l_,m_]
 repeat' (first|(refine hq_ ?_;clear hK K)|refine ca_ ?_ ?_|refine gq_ ?_|(refine c2_ ?_ ?_<;>(intro hb hb';try(exfalso;omega)))|(refine cg_ ?_;first|(refine callS hv ?_)|(refine dA (BF (x.free []) (by omega)) (bW _) ?_ ?_))|refine sz_ (a9_ @GExpr.el @GPart.el @lZ @lJ @nR @lI @b_.{0} @e_ @a_.{0}) ?_|refine nv ?_|(refine rD ?_;intro K hK)|exact bq_|fail)
 exact aS ⟨1,0,_,rfl,rfl,rfl,rfl,rfl,rfl,p_ rfl⟩
def RH :IC:=(zd_ [zz_ 1 (.box (.t 0)),zz_ 2 (.mov (.k (.slice none 0 0)))] (.seq (zd_ [zt_ 3 0 1,zs_ 4 1 3,zm_ 5 .neq 4 2] (.cond (.t 5) (zd_ [zz_ 2 (.mov (.k (.slice none 0 0)))] .ret) .skip)) (zd_ [zt_ 6 2 1,zr_ 7 4 6,zq_ 8 94 7,zw_ 2 8] .ret)))
theorem RG :ak Tryz.prog (Tryz.f66.body.getD .skip)=some RH:=by kernel_rfl
theorem G6(x:GPart)(hw:x.expr.toD.wt≤1048576):bZ Tryz.prog 66 [x.toD] ((cZ x).map ls) 9 1:=by
 refine wE (fn:=Tryz.f66) (t:=2) (hc:=RG) (h:= ?_);change AWP _ _ _ (st0 9 _);have hf:=CX x.expr hw;unfold RH;refine zb_ ?_;simp only[undef,stS,st0,stN,D.av,D.avN,dD,bf,dG,dF,dK,bV,bP,bM,GExpr.aV,GExpr.aK,GExpr.aW,GExpr.el,GPart.aV,GPart.aK,GPart.aW,GPart.el,c_,f_,k_,i_,g_,d_,h_,l_,m_]
 repeat' (first|(refine hq_ ?_;clear hK K)|refine ca_ ?_ ?_|refine gq_ ?_|(refine c2_ ?_ ?_<;>(intro hb hb';try(exfalso;omega)))|(refine cg_ ?_;first|(refine dA hf (bW _) ?_ ?_))|refine sz_ (a9_ @GExpr.el @GPart.el @lZ @lJ @nR @lI @b_.{0} @e_ @a_.{0}) ?_|refine nv ?_|(refine rD ?_;intro K hK)|exact bq_|fail)
 ·have hu:cZ x= []:=by simp[cZ, *]
  rw[hu];exact adR rfl
 ·have hu:cZ x=BG (x.expr.free []):=by simp[cZ, *]
  rw[hu];exact JB rfl rfl rfl rfl rfl rfl (p_ rfl)
theorem abj(x:GPart):(cZ x).length≤1+x.toD.wt:=by
 unfold cZ;split
 ·have:=Lj (x.expr.free []);have:=x.expr.ji [];have:=x.expr_wt;omega
 ·simp
theorem Gv{l:List GPart}(hw:l.length+D.wts (l.map GPart.toD)≤1048576){k:Nat}(h:k<l.length):(l[k]).expr.toD.wt≤1048576:=by
 have h4:=vI (l.map GPart.toD) k (by simpa using h);rw[v_]at h4;have:=(l[k]).expr_wt;omega
theorem xG(l:List GPart)(s:ByteArray)(hn:l.length≤1048576):aI Tryz.prog 24 [.sl (l.map GPart.toD),ls s] (.c false [.raw (.int .i64 (FT (dZ l s l.length)))]):=sU fun w vs hr=>by
 obtain⟨v,u,rfl,h1,h2⟩:=Qq hr;obtain⟨fp,hS⟩:=xI h1;obtain rfl:=pX h2;exact BL l s fp v w hS hn
theorem xH(l:List GPart)(s:ByteArray)(hn:l.length≤1048576):aI Tryz.prog 22 [.sl (l.map GPart.toD),ls s] (.c false [.raw (.int .i64 (FT (dZ l s l.length)))]):=sU fun w vs hr=>by
 obtain⟨v,u,rfl,h1,h2⟩:=Qq hr;obtain⟨fp,hS⟩:=xI h1;obtain rfl:=pX h2;exact Oc l s fp v w hS hn
end Go.Proofs.YtfjmoicellpnhaaGreat
