/-
  Texts joined: Free2 Uses Visit0 Visit Missing.
-/
import Derived.Test.YtfjmoicellpnhaaGreatJV
import Derived.Test.YtfjmoicellpnhaaGreatJE
import Derived.Test.YtfjmoicellpnhaaGreatJR
set_option maxHeartbeats 16000000
namespace Go.Proofs.YtfjmoicellpnhaaGreat
open Go.RowKit
open List renaming length_append→a_,append_assoc→b_,map_cons→d_,length_cons→e_,map_nil→f_,nil_append→g_,length_nil→h_,cons_append→i_,all_cons→j_,replicate→k_,getElem_mem→n_,map_append→o_,length_take→q_,take_succ_cons→s_,getElem_map→v_,take_length→w_,map_take→y_,length→B_,map→C_
open Nat renaming add_assoc→c_,reduceAdd→l_,reduceSub→m_,lt_succ_self→u_,zero_le→A_
open Or renaming inl→p_
open IntKind renaming i64→r_
set_option linter.unusedSimpArgs false
set_option linter.unusedVariables false
attribute [local irreducible] sw sd sn
mutual
def GExpr.free :GExpr→List ByteArray→List ByteArray
 | .mk kind n text args,b=>if(kind==3) && !rY b text then [text]else GExpr.frees args b (if kind==7 || kind==9 then b++ [text]else b)
def GExpr.frees :List GExpr→List ByteArray→List ByteArray→List ByteArray
 | [],_,_=> []
 |a::r,b0,b1=>GExpr.free a b0++GExpr.frees r b1 b1
end
def GExpr.inner(x:GExpr)(b:List ByteArray):List ByteArray:=if x.kind==7 || x.kind==9 then b++ [x.text]else b
theorem GExpr.free_eq(x:GExpr)(b:List ByteArray):x.free b=if(x.kind==3) && !rY b x.text then [x.text]else GExpr.frees x.args b (x.inner b):=by
 cases x with
 |mk kind n text args=>rw[GExpr.free];rfl
theorem nM(b0 b1:List ByteArray):GExpr.frees [] b0 b1= []:=by rw[GExpr.frees]
theorem Ig(a:GExpr):∀(l:List GExpr) (b0 b1:List ByteArray),GExpr.frees (l++ [a]) b0 b1=GExpr.frees l b0 b1++a.free (if l.length=0 then b0 else b1)
 | [],b0,b1=>by rw[g_,GExpr.frees,GExpr.frees,nM];simp
 | x::l,b0,b1=>by
   rw[i_,GExpr.frees,GExpr.frees,Ig a l]
   have h:(if l.length=0 then b1 else b1)=b1:=by split<;>rfl
   rw[h,if_neg (by simp),b_]
theorem vw(l:List GExpr)(b0 b1:List ByteArray){i:Nat}(h:i<l.length):GExpr.frees (l.take (i+1)) b0 b1=GExpr.frees (l.take i) b0 b1++(l[i]).free (if i=0 then b0 else b1):=by
 rw[List.take_succ_eq_append_getElem h,Ig,q_,Nat.min_eq_left (by omega)]
theorem GExpr.Yr(x:GExpr):x.toD.wt=x.text.size+(x.args.length+D.wts (x.args.map GExpr.toD)):=by
 rw[GExpr.aP]
 simp[D.wt,D.wts,li,ls,o9]
mutual
theorem GExpr.jy :∀(x:GExpr) (b:List ByteArray),(x.free b).length≤1+x.toD.wt
 | .mk kind n text args,b=>by
   rw[GExpr.free,GExpr.Yr]
   split
   ·simp
   ·have:=GExpr.uG args b (if kind==7 || kind==9 then b++ [text]else b)
    simp only[GExpr.args,GExpr.text]
    omega
theorem GExpr.uG :∀(l:List GExpr) (b0 b1:List ByteArray),(GExpr.frees l b0 b1).length≤l.length+D.wts (l.map GExpr.toD)
 | [],_,_=>by rw[nM];simp
 | a::r,b0,b1=>by
   rw[GExpr.frees,a_,d_,D.wts,e_]
   have h1:=GExpr.jy a b0
   have h2:=GExpr.uG r b1 b1
   omega
end
theorem ZW(l:List D)(i:Nat):D.wts (l.take i)≤D.wts l:=by
 induction l generalizing i with
 |nil=>simp
 | cons d l ih=>
   cases i with
   |zero=>simp[D.wts]
   |succ i=>rw[s_,D.wts,D.wts];have:=ih i;omega
theorem oz(l:List GExpr)(b0 b1:List ByteArray)(i:Nat):(GExpr.frees (l.take i) b0 b1).length≤l.length+D.wts (l.map GExpr.toD):=by
 have h1:=GExpr.uG (l.take i) b0 b1
 have h2:=ZW (l.map GExpr.toD) i
 rw[y_]at h1
 have h3:(l.take i).length≤l.length:=by rw[q_];omega
 omega
theorem BR{x y:GExpr}(h:y∈x.args):y.toD.wt+1≤x.toD.wt:=by
 rw[GExpr.Yr x]
 have h1:=D.VG (List.mem_map_of_mem (f:=GExpr.toD) h)
 have h2:=List.length_pos_of_mem h
 omega
theorem yg(x:GExpr)(b:List ByteArray):(x.inner b).length≤b.length+1:=by
 unfold GExpr.inner
 split<;>simp
theorem Gv(l:List ByteArray)(s:ByteArray):aV Tryz.prog 110 [.sl (l.map ls),ls s] (.c false [.raw (.bool (rY l s))]):=ET fun w vs hr=>by
 obtain⟨v,u,rfl,h1,h2⟩:=aaN hr
 obtain⟨fp,hS⟩:=DK h1
 obtain rfl:=uQ h2
 exact Gw l s fp v w hS
def Xz :IC:=(zd_ [zz_ 2 (.box (.t 0)),zz_ 4 (.mov (.k (.slice none 0 0)))] (zd_ [zz_ 8 (.brow true 9 1 0 false []),zw_ 5 8] (.seq (zd_ [zt_ 9 0 2,zs_ 10 1 9,zm_ 11 .eql 10 3,zw_ 12 11,zv_ 13 12 1,zy_ 14 12 (.fad 2 (.t 2)),zy_ 15 12 (.load 1 false (.t 14)),zy_ 16 12 (.call 110 [(.t 13),(.t 15)]),zy_ 17 12 (.not (.t 16)),zh_ 18 12 17 false] (.cond (.t 18) (zd_ [zw_ 19 5,zt_ 20 2 2,zs_ 21 1 20,zz_ 22 (.brow false 9 1 1 false [(.t 21)]),zz_ 23 (.app 9 1 (.t 19) (.t 22)),zw_ 4 23] .ret) .skip)) (.seq (zd_ [zk_ 6 0] (.block 0 (.loop (.seq (zd_ [zw_ 24 6,zt_ 25 3 2,zs_ 26 1 25,zf_ 27 false 26,zl_ 28 .lss 24 27] (.cond (.t 28) .skip (.exit 0))) (.seq (.block 1 (zd_ [zw_ 31 1,zw_ 7 31] (.seq (zd_ [zt_ 32 0 2,zs_ 33 1 32,zm_ 34 .eql 33 7,zw_ 35 34,zx_ 36 35 (.fad 0 (.t 2)),zx_ 37 35 (.load 1 false (.t 36)),zx_ 38 35 (.bin .eql (.t 37) (.k (.int .i64 9))),zg_ 39 35 true 38,zw_ 40 39,zv_ 41 40 6,zy_ 42 40 (.bin .gtr (.t 41) (.k (.int .i64 0))),zh_ 43 40 42 false] (.cond (.t 43) (.reg true [zz_ 44 (.brow true 9 1 0 false []),zw_ 45 1,zz_ 46 (.app 9 1 (.t 44) (.t 45)),zt_ 47 2 2,zs_ 48 1 47,zz_ 49 (.brow false 9 1 1 false [(.t 48)]),zz_ 50 (.app 9 1 (.t 46) (.t 49)),zw_ 7 50]) .skip)) (.reg false [zw_ 51 5,zt_ 52 3 2,zs_ 53 1 52,zw_ 54 6,ze_ 55 4 53 54,zr_ 56 4 55,zw_ 57 7,zp_ 58 97 56 57,zz_ 59 (.app 9 1 (.t 51) (.t 58)),zw_ 5 59])))) (.reg false [zw_ 29 6,zm_ 30 .add 29 1,zw_ 6 30])))))) (zd_ [zw_ 60 5,zw_ 4 60] .ret)))))
theorem UU :ay Tryz.prog (Tryz.f97.body.getD .skip)=some Xz:=by kernel_rfl
def BM(x:GExpr):Prop:=∀b:List ByteArray,b.length+x.toD.wt≤1048577→dA Tryz.prog 97 [x.toD,.sl (b.map ls)] ((x.free b).map ls) 9 1
theorem Uh (x:GExpr)(hI:∀y∈x.args,BM y):BM x:=by
 intro b hw
 have hwl:x.args.length+D.wts (x.args.map GExpr.toD)≤1048577:=by have:=x.Yr;omega
 refine fK (fn:=Tryz.f97) (t:=4) (hc:=UU) (h:= ?_)
 change AWP _ _ _ (st0 61 _)
 rw[GExpr.free_eq]
 unfold Xz;refine zb_ ?_
 refine sS trivial ?_
 have hloop:(x.kind==3 && !rY b x.text)=false→True:=fun _=>trivial
 cases k3:(x.kind==3)with
 | true=>
   cases hh:rY b x.text with
   | false=>
     rw[if_pos (by simp[k3,hh])]
     repeat' (first|(refine rg_ ?_;intro K hK)|(refine hq_ ?_;clear hK K)|refine ca_ ?_ ?_|refine gq_ ?_|(refine c2_ ?_ ?_<;>(intro hb hb';try(exfalso;omega)))|((with_reducible refine aB ?_);first|refine aI (hc:=(Gv b x.text)) (h:= ?_))|((with_reducible refine ak ?_);refine ss (aho @GExpr.el (aho k3 hh)) ?_)|refine nv ?_|exact aA|exact au)
     exact bC ⟨0,1,_,rfl,rfl,rfl,rfl,rfl,rfl,p_ rfl⟩
   | true=>
     rw[if_neg (by simp[k3,hh])]
     repeat' (first|(refine rg_ ?_;intro K hK)|(refine hq_ ?_;clear hK K)|refine ca_ ?_ ?_|refine gq_ ?_|(refine c2_ ?_ ?_<;>(intro hb hb';try(exfalso;omega)))|((with_reducible refine aB ?_);first|refine aI (hc:=(Gv b x.text)) (h:= ?_))|((with_reducible refine ak ?_);refine ss (aho @GExpr.el (aho k3 hh)) ?_)|refine nv ?_|exact aA|exact au)
     refine aW (X:=Nat×Nat) (fun q=> [.d,.k,.k,.d,.d,.v (.c false [.own 0 q.2]),.v (.c false [.raw (.int .i64 (q.1:Nat))]),.d,.d,.d,.d,.d,.d,.d,.d,.d,.d,.d,.d,.d,.d,.d,.d,.d,.d,.d,.d,.d,.d,.d,.d,.d,.d,.d,.d,.d,.d,.d,.d,.d,.d,.d,.d,.d,.d,.d,.d,.d,.d,.d,.d,.d,.d,.d,.d,.d,.d,.d,.d,.d,.d]) (fun q=> [⟨(GExpr.frees (x.args.take q.1) b (x.inner b)).map ls,9,1,q.2,true⟩]) (fun q bs=>bs) (fun q=>q.1≤x.args.length) (fun q=>x.args.length - q.1) (0,0) (by simp) ?_ ?_
     ·simp[aO,aX,aK,aN,AV.fits,AC.fits,FB,aG,nM,GExpr.frees]
     rintro⟨i,v⟩ hi
     have hi':i≤x.args.length:=hi
     clear hi
     simp only[FB,aG]
     by_cases hlt:i<x.args.length
     ·have ht:decide ((i:Int)<(x.args.length:Int))=true:=by simp;omega
      have hw1:IntKind.i64.wrap ((i:Int)+1)=((i+1:Nat):Int):=dN (by omega)
      have hix:=dD GExpr.toD x.args hlt
      have hmem:x.args[i]∈x.args:=n_ hlt
      have hwm:=BR hmem
      have hfl:=oz x.args b (x.inner b) i
      have hft:=vw x.args b (x.inner b) hlt
      have hil:=yg x b
      by_cases hi0:i=0
      ·have g:decide ((i:Int) > 0)=false:=by simp;omega
       cases k7:(x.kind==7)with
       | true=>
         have hfa:=GExpr.jy x.args[i] (b)
         have hbl:(b).length≤b.length+1:=by simp
         have hfree:GExpr.frees (x.args.take (i+1)) b (x.inner b)=GExpr.frees (x.args.take i) b (x.inner b)++(x.args[i]).free (b):=by rw[hft];simp[GExpr.inner,hi0]
         have hI1:=hI x.args[i] hmem (b) (by omega)
         repeat' (first|(refine hq_ ?_;clear hK K)|refine ca_ ?_ ?_|refine gq_ ?_|(refine c2_ ?_ ?_<;>(intro hb hb';try(exfalso;omega)))|((with_reducible refine aB ?_);first|(refine bG hI1 (dF _) ?_ ?_))|((with_reducible refine ak ?_);refine ss (aho @GExpr.el (aho ht (aho hw1 (aho hix (aho k7 g))))) ?_)|((with_reducible refine bf ?_);refine sx (aho @GExpr.el (aho ht (aho hw1 (aho hix (aho k7 g))))) ?_)|refine nv ?_|(refine rD ?_;intro K hK)|exact aA|exact au)
         refine aS (i+1,v+1) ?_ ?_ ?_
         ·simp[aO,aX,aK,aN,AV.fits,AC.fits,FB,aG,hfree]
         ·show i+1≤x.args.length;omega
         ·show x.args.length - (i+1)<x.args.length - i;omega
       | false=>
         cases k9:(x.kind==9)with
         | true=>
           have hfa:=GExpr.jy x.args[i] (b)
           have hbl:(b).length≤b.length+1:=by simp
           have hfree:GExpr.frees (x.args.take (i+1)) b (x.inner b)=GExpr.frees (x.args.take i) b (x.inner b)++(x.args[i]).free (b):=by rw[hft];simp[GExpr.inner,hi0]
           have hI1:=hI x.args[i] hmem (b) (by omega)
           repeat' (first|(refine hq_ ?_;clear hK K)|refine ca_ ?_ ?_|refine gq_ ?_|(refine c2_ ?_ ?_<;>(intro hb hb';try(exfalso;omega)))|((with_reducible refine aB ?_);first|(refine bG hI1 (dF _) ?_ ?_))|((with_reducible refine ak ?_);refine ss (aho @GExpr.el (aho ht (aho hw1 (aho hix (aho k7 (aho k9 g)))))) ?_)|((with_reducible refine bf ?_);refine sx (aho @GExpr.el (aho ht (aho hw1 (aho hix (aho k7 (aho k9 g)))))) ?_)|refine nv ?_|(refine rD ?_;intro K hK)|exact aA|exact au)
           refine aS (i+1,v+1) ?_ ?_ ?_
           ·simp[aO,aX,aK,aN,AV.fits,AC.fits,FB,aG,hfree]
           ·show i+1≤x.args.length;omega
           ·show x.args.length - (i+1)<x.args.length - i;omega
         | false=>
           have hfa:=GExpr.jy x.args[i] (b)
           have hbl:(b).length≤b.length+1:=by simp
           have hfree:GExpr.frees (x.args.take (i+1)) b (x.inner b)=GExpr.frees (x.args.take i) b (x.inner b)++(x.args[i]).free (b):=by rw[hft];simp[GExpr.inner,hi0]
           have hI1:=hI x.args[i] hmem (b) (by omega)
           repeat' (first|(refine hq_ ?_;clear hK K)|refine ca_ ?_ ?_|refine gq_ ?_|(refine c2_ ?_ ?_<;>(intro hb hb';try(exfalso;omega)))|((with_reducible refine aB ?_);first|(refine bG hI1 (dF _) ?_ ?_))|((with_reducible refine ak ?_);refine ss (aho @GExpr.el (aho ht (aho hw1 (aho hix (aho k7 k9))))) ?_)|((with_reducible refine bf ?_);refine sx (aho @GExpr.el (aho ht (aho hw1 (aho hix (aho k7 k9))))) ?_)|refine nv ?_|(refine rD ?_;intro K hK)|exact aA|exact au)
           refine aS (i+1,v+1) ?_ ?_ ?_
           ·simp[aO,aX,aK,aN,AV.fits,AC.fits,FB,aG,hfree]
           ·show i+1≤x.args.length;omega
           ·show x.args.length - (i+1)<x.args.length - i;omega
      ·have g:decide ((i:Int) > 0)=true:=by simp;omega
       cases k7:(x.kind==7)with
       | true=>
         have hfa:=GExpr.jy x.args[i] (b++ [x.text])
         have hbl:(b++ [x.text]).length≤b.length+1:=by simp
         have hfree:GExpr.frees (x.args.take (i+1)) b (x.inner b)=GExpr.frees (x.args.take i) b (x.inner b)++(x.args[i]).free (b++ [x.text]):=by rw[hft];simp[GExpr.inner,hi0,k7]
         have hI1:=hI x.args[i] hmem (b++ [x.text]) (by omega)
         simp only[o_,d_,f_]at hI1
         repeat' (first|(refine hq_ ?_;clear hK K)|refine ca_ ?_ ?_|refine gq_ ?_|(refine c2_ ?_ ?_<;>(intro hb hb';try(exfalso;omega)))|((with_reducible refine aB ?_);first|(refine bG hI1 (dF _) ?_ ?_))|((with_reducible refine ak ?_);refine ss (aho @GExpr.el (aho ht (aho hw1 (aho hix (aho k7 g))))) ?_)|((with_reducible refine bf ?_);refine sx (aho @GExpr.el (aho ht (aho hw1 (aho hix (aho k7 g))))) ?_)|refine nv ?_|(refine rD ?_;intro K hK)|exact aA|exact au)
         refine aS (i+1,v+1) ?_ ?_ ?_
         ·simp[aO,aX,aK,aN,AV.fits,AC.fits,FB,aG,hfree]
         ·show i+1≤x.args.length;omega
         ·show x.args.length - (i+1)<x.args.length - i;omega
       | false=>
         cases k9:(x.kind==9)with
         | true=>
           have hfa:=GExpr.jy x.args[i] (b++ [x.text])
           have hbl:(b++ [x.text]).length≤b.length+1:=by simp
           have hfree:GExpr.frees (x.args.take (i+1)) b (x.inner b)=GExpr.frees (x.args.take i) b (x.inner b)++(x.args[i]).free (b++ [x.text]):=by rw[hft];simp[GExpr.inner,hi0,k7,k9]
           have hI1:=hI x.args[i] hmem (b++ [x.text]) (by omega)
           simp only[o_,d_,f_]at hI1
           repeat' (first|(refine hq_ ?_;clear hK K)|refine ca_ ?_ ?_|refine gq_ ?_|(refine c2_ ?_ ?_<;>(intro hb hb';try(exfalso;omega)))|((with_reducible refine aB ?_);first|(refine bG hI1 (dF _) ?_ ?_))|((with_reducible refine ak ?_);refine ss (aho @GExpr.el (aho ht (aho hw1 (aho hix (aho k7 (aho k9 g)))))) ?_)|((with_reducible refine bf ?_);refine sx (aho @GExpr.el (aho ht (aho hw1 (aho hix (aho k7 (aho k9 g)))))) ?_)|refine nv ?_|(refine rD ?_;intro K hK)|exact aA|exact au)
           refine aS (i+1,v+1) ?_ ?_ ?_
           ·simp[aO,aX,aK,aN,AV.fits,AC.fits,FB,aG,hfree]
           ·show i+1≤x.args.length;omega
           ·show x.args.length - (i+1)<x.args.length - i;omega
         | false=>
           have hfa:=GExpr.jy x.args[i] (b)
           have hbl:(b).length≤b.length+1:=by simp
           have hfree:GExpr.frees (x.args.take (i+1)) b (x.inner b)=GExpr.frees (x.args.take i) b (x.inner b)++(x.args[i]).free (b):=by rw[hft];simp[GExpr.inner,hi0,k7,k9]
           have hI1:=hI x.args[i] hmem (b) (by omega)
           repeat' (first|(refine hq_ ?_;clear hK K)|refine ca_ ?_ ?_|refine gq_ ?_|(refine c2_ ?_ ?_<;>(intro hb hb';try(exfalso;omega)))|((with_reducible refine aB ?_);first|(refine bG hI1 (dF _) ?_ ?_))|((with_reducible refine ak ?_);refine ss (aho @GExpr.el (aho ht (aho hw1 (aho hix (aho k7 k9))))) ?_)|((with_reducible refine bf ?_);refine sx (aho @GExpr.el (aho ht (aho hw1 (aho hix (aho k7 k9))))) ?_)|refine nv ?_|(refine rD ?_;intro K hK)|exact aA|exact au)
           refine aS (i+1,v+1) ?_ ?_ ?_
           ·simp[aO,aX,aK,aN,AV.fits,AC.fits,FB,aG,hfree]
           ·show i+1≤x.args.length;omega
           ·show x.args.length - (i+1)<x.args.length - i;omega
     ·have ht:decide ((i:Int)<(x.args.length:Int))=false:=by simp;omega
      repeat' (first|(refine rg_ ?_;intro K hK)|(refine hq_ ?_;clear hK K)|refine ca_ ?_ ?_|refine gq_ ?_|(refine c2_ ?_ ?_<;>(intro hb hb';try(exfalso;omega)))|((with_reducible refine ak ?_);refine ss (aho @GExpr.el ht) ?_)|refine nv ?_|exact aA|exact au)
      obtain rfl:i=x.args.length:=by omega
      exact bC ⟨0,v,_,rfl,rfl,rfl,by simp,rfl,rfl,p_ rfl⟩
 | false =>
   rw[if_neg (by simp[k3])]
   repeat' (first|(refine rg_ ?_;intro K hK)|(refine hq_ ?_;clear hK K)|refine ca_ ?_ ?_|refine gq_ ?_|(refine c2_ ?_ ?_<;>(intro hb hb';try(exfalso;omega)))|((with_reducible refine aB ?_);first|refine aI (hc:=(Gv b x.text)) (h:= ?_))|((with_reducible refine ak ?_);refine ss (aho @GExpr.el k3) ?_)|refine nv ?_|exact aA|exact au)
   refine aW (X:=Nat×Nat) (fun q=> [.d,.k,.k,.d,.d,.v (.c false [.own 0 q.2]),.v (.c false [.raw (.int .i64 (q.1:Nat))]),.d,.d,.d,.d,.d,.d,.d,.d,.d,.d,.d,.d,.d,.d,.d,.d,.d,.d,.d,.d,.d,.d,.d,.d,.d,.d,.d,.d,.d,.d,.d,.d,.d,.d,.d,.d,.d,.d,.d,.d,.d,.d,.d,.d,.d,.d,.d,.d,.d,.d,.d,.d,.d,.d]) (fun q=> [⟨(GExpr.frees (x.args.take q.1) b (x.inner b)).map ls,9,1,q.2,true⟩]) (fun q bs=>bs) (fun q=>q.1≤x.args.length) (fun q=>x.args.length - q.1) (0,0) (by simp) ?_ ?_
   ·simp[aO,aX,aK,aN,AV.fits,AC.fits,FB,aG,nM,GExpr.frees]
   rintro⟨i,v⟩ hi
   have hi':i≤x.args.length:=hi
   clear hi
   simp only[FB,aG]
   by_cases hlt:i<x.args.length
   ·have ht:decide ((i:Int)<(x.args.length:Int))=true:=by simp;omega
    have hw1:IntKind.i64.wrap ((i:Int)+1)=((i+1:Nat):Int):=dN (by omega)
    have hix:=dD GExpr.toD x.args hlt
    have hmem:x.args[i]∈x.args:=n_ hlt
    have hwm:=BR hmem
    have hfl:=oz x.args b (x.inner b) i
    have hft:=vw x.args b (x.inner b) hlt
    have hil:=yg x b
    by_cases hi0:i=0
    ·have g:decide ((i:Int) > 0)=false:=by simp;omega
     cases k7:(x.kind==7)with
     | true=>
       have hfa:=GExpr.jy x.args[i] (b)
       have hbl:(b).length≤b.length+1:=by simp
       have hfree:GExpr.frees (x.args.take (i+1)) b (x.inner b)=GExpr.frees (x.args.take i) b (x.inner b)++(x.args[i]).free (b):=by rw[hft];simp[GExpr.inner,hi0]
       have hI1:=hI x.args[i] hmem (b) (by omega)
       repeat' (first|(refine hq_ ?_;clear hK K)|refine ca_ ?_ ?_|refine gq_ ?_|(refine c2_ ?_ ?_<;>(intro hb hb';try(exfalso;omega)))|((with_reducible refine aB ?_);first|(refine bG hI1 (dF _) ?_ ?_))|((with_reducible refine ak ?_);refine ss (aho @GExpr.el (aho ht (aho hw1 (aho hix (aho k7 g))))) ?_)|((with_reducible refine bf ?_);refine sx (aho @GExpr.el (aho ht (aho hw1 (aho hix (aho k7 g))))) ?_)|refine nv ?_|(refine rD ?_;intro K hK)|exact aA|exact au)
       refine aS (i+1,v+1) ?_ ?_ ?_
       ·simp[aO,aX,aK,aN,AV.fits,AC.fits,FB,aG,hfree]
       ·show i+1≤x.args.length;omega
       ·show x.args.length - (i+1)<x.args.length - i;omega
     | false=>
       cases k9:(x.kind==9)with
       | true=>
         have hfa:=GExpr.jy x.args[i] (b)
         have hbl:(b).length≤b.length+1:=by simp
         have hfree:GExpr.frees (x.args.take (i+1)) b (x.inner b)=GExpr.frees (x.args.take i) b (x.inner b)++(x.args[i]).free (b):=by rw[hft];simp[GExpr.inner,hi0]
         have hI1:=hI x.args[i] hmem (b) (by omega)
         repeat' (first|(refine hq_ ?_;clear hK K)|refine ca_ ?_ ?_|refine gq_ ?_|(refine c2_ ?_ ?_<;>(intro hb hb';try(exfalso;omega)))|((with_reducible refine aB ?_);first|(refine bG hI1 (dF _) ?_ ?_))|((with_reducible refine ak ?_);refine ss (aho @GExpr.el (aho ht (aho hw1 (aho hix (aho k7 (aho k9 g)))))) ?_)|((with_reducible refine bf ?_);refine sx (aho @GExpr.el (aho ht (aho hw1 (aho hix (aho k7 (aho k9 g)))))) ?_)|refine nv ?_|(refine rD ?_;intro K hK)|exact aA|exact au)
         refine aS (i+1,v+1) ?_ ?_ ?_
         ·simp[aO,aX,aK,aN,AV.fits,AC.fits,FB,aG,hfree]
         ·show i+1≤x.args.length;omega
         ·show x.args.length - (i+1)<x.args.length - i;omega
       | false=>
         have hfa:=GExpr.jy x.args[i] (b)
         have hbl:(b).length≤b.length+1:=by simp
         have hfree:GExpr.frees (x.args.take (i+1)) b (x.inner b)=GExpr.frees (x.args.take i) b (x.inner b)++(x.args[i]).free (b):=by rw[hft];simp[GExpr.inner,hi0]
         have hI1:=hI x.args[i] hmem (b) (by omega)
         repeat' (first|(refine hq_ ?_;clear hK K)|refine ca_ ?_ ?_|refine gq_ ?_|(refine c2_ ?_ ?_<;>(intro hb hb';try(exfalso;omega)))|((with_reducible refine aB ?_);first|(refine bG hI1 (dF _) ?_ ?_))|((with_reducible refine ak ?_);refine ss (aho @GExpr.el (aho ht (aho hw1 (aho hix (aho k7 k9))))) ?_)|((with_reducible refine bf ?_);refine sx (aho @GExpr.el (aho ht (aho hw1 (aho hix (aho k7 k9))))) ?_)|refine nv ?_|(refine rD ?_;intro K hK)|exact aA|exact au)
         refine aS (i+1,v+1) ?_ ?_ ?_
         ·simp[aO,aX,aK,aN,AV.fits,AC.fits,FB,aG,hfree]
         ·show i+1≤x.args.length;omega
         ·show x.args.length - (i+1)<x.args.length - i;omega
    ·have g:decide ((i:Int) > 0)=true:=by simp;omega
     cases k7:(x.kind==7)with
     | true=>
       have hfa:=GExpr.jy x.args[i] (b++ [x.text])
       have hbl:(b++ [x.text]).length≤b.length+1:=by simp
       have hfree:GExpr.frees (x.args.take (i+1)) b (x.inner b)=GExpr.frees (x.args.take i) b (x.inner b)++(x.args[i]).free (b++ [x.text]):=by rw[hft];simp[GExpr.inner,hi0,k7]
       have hI1:=hI x.args[i] hmem (b++ [x.text]) (by omega)
       simp only[o_,d_,f_]at hI1
       repeat' (first|(refine hq_ ?_;clear hK K)|refine ca_ ?_ ?_|refine gq_ ?_|(refine c2_ ?_ ?_<;>(intro hb hb';try(exfalso;omega)))|((with_reducible refine aB ?_);first|(refine bG hI1 (dF _) ?_ ?_))|((with_reducible refine ak ?_);refine ss (aho @GExpr.el (aho ht (aho hw1 (aho hix (aho k7 g))))) ?_)|((with_reducible refine bf ?_);refine sx (aho @GExpr.el (aho ht (aho hw1 (aho hix (aho k7 g))))) ?_)|refine nv ?_|(refine rD ?_;intro K hK)|exact aA|exact au)
       refine aS (i+1,v+1) ?_ ?_ ?_
       ·simp[aO,aX,aK,aN,AV.fits,AC.fits,FB,aG,hfree]
       ·show i+1≤x.args.length;omega
       ·show x.args.length - (i+1)<x.args.length - i;omega
     | false=>
       cases k9:(x.kind==9)with
       | true=>
         have hfa:=GExpr.jy x.args[i] (b++ [x.text])
         have hbl:(b++ [x.text]).length≤b.length+1:=by simp
         have hfree:GExpr.frees (x.args.take (i+1)) b (x.inner b)=GExpr.frees (x.args.take i) b (x.inner b)++(x.args[i]).free (b++ [x.text]):=by rw[hft];simp[GExpr.inner,hi0,k7,k9]
         have hI1:=hI x.args[i] hmem (b++ [x.text]) (by omega)
         simp only[o_,d_,f_]at hI1
         repeat' (first|(refine hq_ ?_;clear hK K)|refine ca_ ?_ ?_|refine gq_ ?_|(refine c2_ ?_ ?_<;>(intro hb hb';try(exfalso;omega)))|((with_reducible refine aB ?_);first|(refine bG hI1 (dF _) ?_ ?_))|((with_reducible refine ak ?_);refine ss (aho @GExpr.el (aho ht (aho hw1 (aho hix (aho k7 (aho k9 g)))))) ?_)|((with_reducible refine bf ?_);refine sx (aho @GExpr.el (aho ht (aho hw1 (aho hix (aho k7 (aho k9 g)))))) ?_)|refine nv ?_|(refine rD ?_;intro K hK)|exact aA|exact au)
         refine aS (i+1,v+1) ?_ ?_ ?_
         ·simp[aO,aX,aK,aN,AV.fits,AC.fits,FB,aG,hfree]
         ·show i+1≤x.args.length;omega
         ·show x.args.length - (i+1)<x.args.length - i;omega
       | false=>
         have hfa:=GExpr.jy x.args[i] (b)
         have hbl:(b).length≤b.length+1:=by simp
         have hfree:GExpr.frees (x.args.take (i+1)) b (x.inner b)=GExpr.frees (x.args.take i) b (x.inner b)++(x.args[i]).free (b):=by rw[hft];simp[GExpr.inner,hi0,k7,k9]
         have hI1:=hI x.args[i] hmem (b) (by omega)
         repeat' (first|(refine hq_ ?_;clear hK K)|refine ca_ ?_ ?_|refine gq_ ?_|(refine c2_ ?_ ?_<;>(intro hb hb';try(exfalso;omega)))|((with_reducible refine aB ?_);first|(refine bG hI1 (dF _) ?_ ?_))|((with_reducible refine ak ?_);refine ss (aho @GExpr.el (aho ht (aho hw1 (aho hix (aho k7 k9))))) ?_)|((with_reducible refine bf ?_);refine sx (aho @GExpr.el (aho ht (aho hw1 (aho hix (aho k7 k9))))) ?_)|refine nv ?_|(refine rD ?_;intro K hK)|exact aA|exact au)
         refine aS (i+1,v+1) ?_ ?_ ?_
         ·simp[aO,aX,aK,aN,AV.fits,AC.fits,FB,aG,hfree]
         ·show i+1≤x.args.length;omega
         ·show x.args.length - (i+1)<x.args.length - i;omega
   ·have ht:decide ((i:Int)<(x.args.length:Int))=false:=by simp;omega
    repeat' (first|(refine rg_ ?_;intro K hK)|(refine hq_ ?_;clear hK K)|refine ca_ ?_ ?_|refine gq_ ?_|(refine c2_ ?_ ?_<;>(intro hb hb';try(exfalso;omega)))|((with_reducible refine ak ?_);refine ss (aho @GExpr.el ht) ?_)|refine nv ?_|exact aA|exact au)
    obtain rfl:i=x.args.length:=by omega
    exact bC ⟨0,v,_,rfl,rfl,rfl,by simp,rfl,rfl,p_ rfl⟩
theorem P6 :∀(n:Nat) (x:GExpr),x.toD.wt<n→BM x:=by
 intro n
 induction n with
 |zero=>intro x h;omega
 | succ n ih=>
   intro x h
   exact Uh x (fun y hy=>ih y (by have:=BR hy;omega))
theorem P5(x:GExpr):BM x:=P6 _ x (u_ _)
theorem vS.own{l:List ByteArray}{w w':World}{en:Ending}(h:vS l w en w'):tJ false (l.map ls) 9 1 w en w':=by
 obtain⟨f,v,rfl,⟨cs,h1,h2,h3,h4⟩,h5⟩:=h
 exact⟨v,cs,f,rfl,bK.of h1,h2,fun b hb=>⟨fun e=>h4 b e.symm hb,(h3.2 b hb).1⟩,h5⟩
theorem GExpr.Ii(x:GExpr)(b:List ByteArray):(x.free b).length≤max 1 x.toD.wt:=by
 rw[GExpr.free_eq]
 split
 ·simp;omega
 ·have:=GExpr.uG x.args b (x.inner b)
  have:=x.Yr
  omega
theorem Ag(l:List ByteArray)(hn:l.length≤1048576):dA Tryz.prog 68 [.sl (l.map ls)] ((Ai l).map ls) 9 1:=fun w vs hr _=>by
 obtain⟨v,rfl,h1⟩:=Pg hr
 obtain⟨fp,hS⟩:=DK h1
 exact(zf l fp v w hS hn).mono fun _ _ h=>h.own
theorem Ah(l:List ByteArray)(hn:l.length≤1048576):dA Tryz.prog 67 [.sl (l.map ls)] ((Ai l).map ls) 9 1:=fun w vs hr _=>by
 obtain⟨v,rfl,h1⟩:=Pg hr
 obtain⟨fp,hS⟩:=DK h1
 exact(zh l fp v w hS hn).mono fun _ _ h=>h.own
def Bd :IC:=(zd_ [zz_ 1 (.box (.t 0)),zz_ 2 (.mov (.k (.slice none 0 0)))] (zd_ [zr_ 3 4 1,zz_ 4 (.brow false 9 1 0 false []),zp_ 5 97 3 4,zq_ 6 68 5,zw_ 2 6] .ret))
theorem EM :ay Tryz.prog (Tryz.f69.body.getD .skip)=some Bd:=by kernel_rfl
theorem sU(x:GExpr)(hw:x.toD.wt≤1048576):dA Tryz.prog 69 [x.toD] ((Ai (x.free [])).map ls) 9 1:=by
 refine fK (fn:=Tryz.f69) (t:=2) (hc:=EM) (h:= ?_)
 change AWP _ _ _ (st0 7 _)
 have hm:=x.Ii []
 unfold Bd;refine zb_ ?_
 refine sS (aho @GExpr.bn (aho @GExpr.aQ (aho @GExpr.aZ (aho @GPart.bn (aho @GPart.aQ @GPart.aZ))))) ?_
 repeat' (first|(refine hq_ ?_;clear hK K)|refine ca_ ?_ ?_|refine gq_ ?_|(refine c2_ ?_ ?_<;>(intro hb hb';try(exfalso;omega)))|((with_reducible refine aB ?_);first|(refine bG (P5 x [] (by simp;omega)) (dF _) ?_ ?_)|(refine bG (Ag (x.free []) (by omega)) (dF _) ?_ ?_))|((with_reducible refine ak ?_);refine ss (aho @GExpr.el @GPart.el) ?_)|((with_reducible refine bf ?_);refine sx (aho @GExpr.el @GPart.el) ?_)|refine nv ?_|(refine rD ?_;intro K hK)|exact aA|exact au)
 exact bC ⟨1,0,_,rfl,rfl,rfl,rfl,rfl,rfl,p_ rfl⟩
def dh(x:GPart):List ByteArray:=if x.kind==2 then Ai (x.expr.free [])else []
theorem JV(x:GPart)(hw:x.expr.toD.wt≤1048576):(dh x).length≤1048576:=by
 unfold dh
 split
 ·have:=JZ (x.expr.free [])
  have:=x.expr.Ii []
  omega
 ·simp
def AX :IC:=(zd_ [zz_ 1 (.box (.t 0)),zz_ 2 (.mov (.k (.slice none 0 0)))] (.seq (zd_ [zt_ 3 0 1,zs_ 4 1 3,zm_ 5 .neq 4 2] (.cond (.t 5) (zd_ [zz_ 6 (.brow true 9 1 0 false []),zw_ 2 6] .ret) .skip)) (zd_ [zt_ 7 2 1,zr_ 8 4 7,zq_ 9 69 8,zw_ 2 9] .ret)))
theorem EG :ay Tryz.prog (Tryz.f35.body.getD .skip)=some AX:=by kernel_rfl
theorem wH(x:GPart)(hw:x.expr.toD.wt≤1048576):dA Tryz.prog 35 [x.toD] ((dh x).map ls) 9 1:=by
 refine fK (fn:=Tryz.f35) (t:=2) (hc:=EG) (h:= ?_)
 change AWP _ _ _ (st0 10 _)
 unfold AX;refine zb_ ?_
 refine sS (aho @GExpr.bn (aho @GExpr.aQ (aho @GExpr.aZ (aho @GPart.bn (aho @GPart.aQ @GPart.aZ))))) ?_
 cases k:(x.kind==2)with
 | true=>
   have kn:(x.kind !=2)=false:=by simp only[bne,k];rfl
   have hU:dh x=Ai (x.expr.free []):=by simp[dh,k]
   rw[hU]
   repeat' (first|(refine hq_ ?_;clear hK K)|refine ca_ ?_ ?_|refine gq_ ?_|(refine c2_ ?_ ?_<;>(intro hb hb';try(exfalso;omega)))|((with_reducible refine aB ?_);first|(refine bG (sU x.expr hw) (dF _) ?_ ?_))|((with_reducible refine ak ?_);refine ss (aho @GExpr.el (aho @GPart.el (aho k kn))) ?_)|((with_reducible refine bf ?_);refine sx (aho @GExpr.el (aho @GPart.el (aho k kn))) ?_)|refine nv ?_|(refine rD ?_;intro K hK)|exact aA|exact au)
   exact bC ⟨0,0,_,rfl,rfl,rfl,rfl,rfl,rfl,p_ rfl⟩
 | false=>
   have kn:(x.kind !=2)=true:=by simp only[bne,k];rfl
   have hU:dh x= []:=by simp[dh,k]
   rw[hU]
   repeat' (first|(refine hq_ ?_;clear hK K)|refine ca_ ?_ ?_|refine gq_ ?_|(refine c2_ ?_ ?_<;>(intro hb hb';try(exfalso;omega)))|((with_reducible refine aB ?_);first|(refine bG (sU x.expr hw) (dF _) ?_ ?_))|((with_reducible refine ak ?_);refine ss (aho @GExpr.el (aho @GPart.el (aho k kn))) ?_)|((with_reducible refine bf ?_);refine sx (aho @GExpr.el (aho @GPart.el (aho k kn))) ?_)|refine nv ?_|(refine rD ?_;intro K hK)|exact aA|exact au)
   exact bC ⟨0,0,_,rfl,rfl,rfl,rfl,rfl,rfl,p_ rfl⟩
theorem AQ :∀(l:List ByteArray) (s:ByteArray) (k:Nat),(decide (kH l s k<0))= !rY l s
 | [],s,k=>by simp[kH,rY]
 | x::l,s,k=>by
   rw[kH,rY]
   by_cases h:x=s
   ·rw[if_pos h];simp[h]
   ·rw[if_neg h,AQ l s (k+1)];simp[h]
theorem abY(l:List ByteArray)(s:ByteArray):decide (CU l s<0)= !rY l s:=AQ l s 0
theorem zD(l:List ByteArray)(s:ByteArray):aV Tryz.prog 95 [.sl (l.map ls),ls s] (.c false [.raw (.int .i64 (CU l s))]):=ET fun w vs hr=>by
 obtain⟨v,u,rfl,h1,h2⟩:=aaN hr
 obtain⟨fp,hS⟩:=DK h1
 obtain rfl:=uQ h2
 exact AP l s fp v w hS
def XG :IC:=(.reg false [zs_ 5 1 2,zw_ 6 0,zz_ 7 (.brow false 9 1 1 false [(.t 6)]),zz_ 8 (.app 9 1 (.t 5) (.t 7)),⟨none,none,.store 1 (.t 2) (.t 8)⟩])
theorem U2 :ay Tryz.prog (Tryz.f107.body.getD .skip)=some XG:=by kernel_rfl
abbrev aak :AV:= .c false [.raw (.tuple #[])]
abbrev nX(l:List ByteArray)(v:Nat):Own:=⟨l.map ls,9,1,v,true⟩
theorem Og(pb:List AC)(hpb:∀n m,pb.all (AC.fits n m)=true)(l:List ByteArray)(s:ByteArray)(bv:AV)(ver:Nat)(ox:List Own)(bx:List (List AC))(hl:l.length≤4000000)(hb:iP (ox.length+1) (bx.length+2) bx):
 iH Tryz.prog 107 [.c false [.raw (.string s)],bv,.bptr 1 0] (nX l ver::ox) (pb::[.own 0 ver]::bx) aak (nX (l++ [s]) (ver+1)::ox) (pb::[.own 0 (ver+1)]::bx):=by
 refine Fj (fn:=Tryz.f107) (rs:= []) (by kernel_rfl) (by kernel_rfl) (by kernel_rfl) U2 (by simp) (by simp) ?_
 unfold XG;refine zb_ ?_
 change dK _ _ _ _ (stS 9 _ _ _)
 simp only[undef,stS,st0,stN,D.av,D.avN,dS,bU,dW,dU,fA,dL,dI,dH,GExpr.bn,GExpr.aQ,GExpr.aZ,GExpr.el,GPart.bn,GPart.aQ,GPart.aZ,GPart.el,d_,f_,k_,i_,g_,e_,h_,l_,m_]
 repeat' (first|(refine hq_ ?_;clear hK K)|refine ca_ ?_ ?_|refine gq_ ?_|(refine c2_ ?_ ?_<;>(intro hb hb';try(exfalso;omega)))|((with_reducible refine ak ?_);refine ss (aho @GExpr.el (aho @GPart.el (aho @gK (aho @gy (aho @iw (aho @gu (aho @b_.{0} (aho @c_ @a_.{0})))))))) ?_)|((with_reducible refine bf ?_);refine sx (aho @GExpr.el (aho @GPart.el (aho @gK (aho @gy (aho @iw (aho @gu (aho @b_.{0} (aho @c_ @a_.{0})))))))) ?_)|refine nv ?_|(refine rD ?_;intro K hK)|exact aA|exact au)
 refine⟨?_, ?_, ?_,rfl⟩
 ·simp[aK,gG,nX,ls]
 ·exact⟨rfl,rfl,ny bx⟩
 ·simp only[iP]at hb
  simp only[j_,hpb,Bool.true_and]
  simp[AC.fits,hb]
def Qp :IC:=(zd_ [zz_ 4 (.box (.t 1))] (.seq (zd_ [zt_ 10 0 4,zs_ 11 1 10,zm_ 12 .eql 11 3,zw_ 13 12,zv_ 14 13 2,zy_ 15 13 (.fad 2 (.t 4)),zy_ 16 13 (.load 1 false (.t 15)),zy_ 17 13 (.call 95 [(.t 14),(.t 16)]),zy_ 18 13 (.bin .lss (.t 17) (.k (.int .i64 0))),zh_ 19 13 18 false] (.cond (.t 19) (zd_ [zw_ 20 0,zi_ 21 20,zt_ 22 0 21,zs_ 23 1 22,zz_ 24 (.fnil true (.t 23))] (.cond (.t 24) (.seq (.reg true [zw_ 25 0,zi_ 26 25,zt_ 27 0 26,zs_ 28 1 27,zt_ 29 2 4,zs_ 30 1 29,zw_ 31 2,zz_ 32 (.callv (.t 28) [(.t 30),(.t 31)])]) .ret) .skip)) .skip)) (zd_ [zt_ 33 0 4,zs_ 34 1 33,zm_ 35 .eql 34 7,zw_ 36 35,zx_ 37 36 (.fad 0 (.t 4)),zx_ 38 36 (.load 1 false (.t 37)),zx_ 39 36 (.bin .eql (.t 38) (.k (.int .i64 9))),zg_ 40 36 true 39,zw_ 6 40] (.seq (zd_ [zw_ 41 6,zw_ 42 41,zv_ 43 42 0,zy_ 44 42 (.nck (.t 43)),zy_ 45 42 (.fad 1 (.t 44)),zy_ 46 42 (.load 1 false (.t 45)),zy_ 47 42 (.fnil true (.t 46)),zh_ 48 42 47 false] (.cond (.t 48) (.reg true [zw_ 49 0,zi_ 50 49,zt_ 51 1 50,zs_ 52 1 51,zt_ 53 2 4,zs_ 54 1 53,zz_ 55 (.callv (.t 52) [(.t 54)])]) .skip)) (zd_ [zt_ 56 3 4,zs_ 57 1 56,zf_ 58 false 57,zk_ 59 0] (.block 0 (.loop (zd_ [zl_ 60 .lss 59 58] (.seq (.cond (.t 60) .skip (.exit 0)) (.seq (.block 1 (zd_ [zw_ 61 59,ze_ 62 4 57 59,zr_ 63 4 62,zz_ 8 (.alloc [(.int .i64 0),(.int .i64 0),(.string ⟨#[]⟩),(.slice none 0 0)]),zw_ 7 61,⟨none,none,.store 4 (.t 8) (.t 63)⟩] (zd_ [zw_ 64 2,zw_ 9 64] (.seq (zd_ [zw_ 65 6,zw_ 66 65,zv_ 67 66 7,zy_ 68 66 (.bin .gtr (.t 67) (.k (.int .i64 0))),zh_ 69 66 68 false] (.cond (.t 69) (.reg true [zz_ 70 (.brow true 9 1 0 false []),zw_ 71 2,zz_ 72 (.app 9 1 (.t 70) (.t 71)),zt_ 73 2 4,zs_ 74 1 73,zz_ 75 (.brow false 9 1 1 false [(.t 74)]),zz_ 76 (.app 9 1 (.t 72) (.t 75)),zw_ 9 76]) .skip)) (.reg false [zw_ 77 0,zr_ 78 4 8,zw_ 79 9,zo_ 80 108 77 78 79]))))) (.reg false [zm_ 81 .add 59 1,zw_ 59 81])))))))))))
theorem Qo :ay Tryz.prog (Tryz.f108.body.getD .skip)=some Qp:=by kernel_rfl
def BV(ox:List Own)(b:List ByteArray)(bv:AV):Prop:=(∃nb,bv= .c false [.sl nb (b.map ls)])∨∃k i o,bv= .c false [.own (k+1) i]∧ox[k]? =some o∧o.ver=i∧o.l=b.map ls
abbrev Vo(pb:List AC)(v:Nat)(bx:List (List AC)):List (List AC):=pb::[.own 0 v]::[.cl 107 [1],.raw .nilFunc]::bx
def LX(pb:List AC)(x:GExpr):Prop:=∀(b l:List ByteArray) (bv:AV) (ver:Nat) (ox:List Own) (bx:List (List AC)),BV ox b bv→l.length+x.toD.wt≤2000000→b.length+x.toD.wt≤2000000→iP (ox.length+1) (bx.length+3) bx→
 iH Tryz.prog 108 [.bptr 2 0,x.toD.av,bv] (nX l ver::ox) (Vo pb ver bx) aak (nX (l++x.free b) (ver+(x.free b).length)::ox) (Vo pb (ver+(x.free b).length) bx)
theorem afK{ox:List Own}{b:List ByteArray}{nb:Bool}:BV ox b (.c false [.sl nb (b.map ls)]):=p_ ⟨_,rfl⟩
theorem agv{ox:List Own}{b:List ByteArray}{k i:Nat}{o:Own}(h:ox[k]? =some o)(h1:o.ver=i)(h2:o.l=b.map ls):BV ox b (.c false [.own (k+1) i]):=Or.inr ⟨k,i,o,rfl,h,h1,h2⟩
theorem Yj{ox:List Own}{b:List ByteArray}{i:Nat}{o:Own}(h1:o.ver=i)(h2:o.l=b.map ls):BV (ox++ [o]) b (.c false [.own (ox.length+1) i]):=Or.inr ⟨ox.length,i,o,rfl,by simp,h1,h2⟩
theorem uM :∀(l:List D) (i:Nat) (h:i<l.length),D.wts (l.take i)+(l[i]).wt≤D.wts l
 |d::l,0,h=>by simp[D.wts]
 | d::l,i+1,h=>by
   have:=uM l i (by simpa using h)
   simp only[s_,D.wts,List.getElem_cons_succ]
   omega
theorem Ih(x:GExpr)(b:List ByteArray){q:Nat}(h:q<x.args.length):(GExpr.frees (x.args.take q) b (x.inner b)).length+x.args[q].toD.wt≤x.toD.wt:=by
 have h1:=GExpr.uG (x.args.take q) b (x.inner b)
 have h2:=uM (x.args.map GExpr.toD) q (by simpa using h)
 have h3:=x.Yr
 rw[← y_,v_]at h2
 have h4:(x.args.take q).length≤x.args.length:=by rw[q_];omega
 omega
theorem iL{n m:Nat}{bx cx:List (List AC)}(h:iP n m bx)(h2:iP n m cx):iP n m (bx++cx):=by
 simp only[iP,List.all_append,Bool.and_eq_true]at h h2⊢
 exact⟨h,h2⟩
theorem aeC{pb:List AC}(hpb:∀n m,pb.all (AC.fits n m)=true){n m m' v:Nat}{bx cx:List (List AC)}(h:iP n m' bx)(hn:0<n)(hm:m'≤m)(hm0:1<m')(hc:iP n m cx):iP n m (Vo pb v (bx++cx)):=
 iL (bx:= [_,_,_]) (by simp only[iP,j_,hpb];simp[AC.fits];exact⟨hn,Nat.lt_of_lt_of_le hm0 hm⟩) (iL (h.mono (Nat.le_refl _) hm) hc)
theorem aac(pb:List AC)(hpb:∀n m,pb.all (AC.fits n m)=true)(x:GExpr)(hI:∀y∈x.args,LX pb y):LX pb x:=by
 intro b l bv ver ox bx hbv hwl hwb hfit
 have hwe:=x.Yr
 refine Fj (fn:=Tryz.f108) (rs:= []) (by kernel_rfl) (by kernel_rfl) (by kernel_rfl) Qo (by simp) (by simp) ?_
 unfold Qp;refine zb_ ?_
 change dK _ _ _ _ (stS 82 _ _ _)
 have hneg:=abY b x.text
 have hfree0:=x.free_eq b
 rcases hbv with⟨nb,rfl⟩|⟨k,i,o,rfl,hk,hki,hkl⟩
 ·simp only[undef,stS,st0,stN,D.av,D.avN,dS,bU,dW,dU,fA,dL,dI,dH,GExpr.bn,GExpr.aQ,GExpr.aZ,GExpr.el,GPart.bn,GPart.aQ,GPart.aZ,GPart.el,d_,f_,k_,i_,g_,e_,h_,l_,m_]
  repeat' (first|(refine hq_ ?_;clear hK K)|refine ca_ ?_ ?_|refine gq_ ?_|(refine c2_ ?_ ?_<;>(intro hb hb';try(exfalso;omega)))|((with_reducible refine aB ?_);first|(refine dw (zD b x.text) trivial ?_ ?_))|((with_reducible refine eX ?_);first|(refine bT (zD b x.text) trivial ?_ ?_))|((with_reducible refine Si ?_);first|(refine callV ?_ (Og pb hpb l x.text _ ver ox _ ?_ ?_) ?_))|((with_reducible refine IJ ?_);first|(refine IY ?_ (Og pb hpb l x.text _ ver ox _ ?_ ?_) ?_))|((with_reducible refine ak ?_);refine ss (aho @GExpr.el (aho @GPart.el (aho @gK (aho @gy (aho @iw (aho @gu (aho @b_.{0} (aho @c_ (aho @a_.{0} hneg))))))))) ?_)|((with_reducible refine bf ?_);refine sx (aho @GExpr.el (aho @GPart.el (aho @gK (aho @gy (aho @iw (aho @gu (aho @b_.{0} (aho @c_ (aho @a_.{0} hneg))))))))) ?_)|refine nv ?_|(refine rD ?_;intro K hK)|exact aA|exact au)
  ·with_reducible refine Oh ?_
   refine iL (bx:= [_]) (by simp[iP,AC.fits]) (iL (hfit.mono (by omega) (by simp)) (by simp[iP,AC.fits]))
  ·have hfr:x.free b= [x.text]:=by rw[hfree0];simp[*]
   rw[hfr]
   refine bC ⟨⟨⟨rfl,rfl,rfl,rfl,rfl⟩,gG _⟩,⟨rfl,rfl,rfl,yE _ _⟩, ?_,rfl⟩
   refine iL (bx:= [_,_,_]) (by simp only[iP,j_,hpb];simp[AC.fits]) (hfit.mono (by simp) (by simp))
  all_goals
   (have hfr:x.free b=GExpr.frees x.args b (x.inner b):=by rw[hfree0];simp[*]
    rw[hfr]
    refine iG (X:=Nat) (fun q=> [.k,.d,.k,.d,.k,.d,.k,.d,.d,.d,.d,.d,.d,.d,.d,.d,.d,.d,.d,.d,.d,.d,.d,.d,.d,.d,.d,.d,.d,.d,.d,.d,.d,.d,.d,.d,.d,.d,.d,.d,.d,.d,.d,.d,.d,.d,.d,.d,.d,.d,.d,.d,.d,.d,.d,.d,.d,.k,.k,.v (.c false [.raw (.int .i64 (q:Nat))]),.d,.d,.d,.d,.d,.d,.d,.d,.d,.d,.d,.d,.d,.d,.d,.d,.d,.d,.d,.d,.d,.d]) (fun q=>nX (l++GExpr.frees (x.args.take q) b (x.inner b)) (ver+(GExpr.frees (x.args.take q) b (x.inner b)).length)::ox)
     (fun q bs=>Vo pb (ver+(GExpr.frees (x.args.take q) b (x.inner b)).length) (bx++ [[AC.raw (Value.int r_ x.kind),AC.raw (Value.int r_ x.n),AC.raw (Value.string x.text),AC.sl false (C_ GExpr.toD x.args)]])) (fun q=>q≤x.args.length) (fun q=>x.args.length - q) 0 (A_ _) (by intro q;simp) ?_ ?_
    ·refine⟨?_, ?_, ?_, ?_⟩
     ·simp[aX,AV.fits,AC.fits,FB,aG]
     ·simp[FB,aK,gG,nM,nX]
     ·simp[FB,aN,ny,nM]
     ·exact aeC hpb (m':=bx.length+3) hfit (by simp[FB]) (by simp[FB]) (by simp) (by simp[iP,AC.fits,FB])
    intro q hq
    have hq':q≤x.args.length:=hq
    clear hq
    simp only[FB,aG]
    by_cases hlt:q<x.args.length
    ·have hmem:=n_ hlt
     have hV:=hI x.args[q] hmem
     have hwm:=BR hmem
     have hft:=vw x.args b (x.inner b) hlt
     have hfl:=oz x.args b (x.inner b) q
     have hil:=yg x b
     have hroom:=Ih x b hlt
     simp only[LX,D.av,GExpr.aZ,GExpr.bn]at hV
     repeat' (first|(refine hq_ ?_;clear hK K)|refine ca_ ?_ ?_|refine gq_ ?_|(refine c2_ ?_ ?_<;>(intro hb hb';try(exfalso;omega)))|((with_reducible refine aB ?_);first|(refine callS (hV b _ _ _ _ _ afK ?_ ?_ ?_) ?_)|(refine callS (hV (b++ [x.text]) _ _ _ _ _ (Yj rfl (by simp[ls])) ?_ ?_ ?_) ?_))|((with_reducible refine ak ?_);refine ss (aho @GExpr.el (aho @GPart.el (aho @gK (aho @gy (aho @iw (aho @gu (aho @b_.{0} (aho @c_ @a_.{0})))))))) ?_)|((with_reducible refine bf ?_);refine sx (aho @GExpr.el (aho @GPart.el (aho @gK (aho @gy (aho @iw (aho @gu (aho @b_.{0} (aho @c_ @a_.{0})))))))) ?_)|refine nv ?_|(refine rD ?_;intro K hK)|exact aA|exact au)
     all_goals first
      |(simp only[a_,e_,h_];omega)
      | (with_reducible refine Oh ?_
         first
          |exact iL (hfit.mono (by simp) (by simp)) (by simp[iP,AC.fits])
          |exact iL (hfit.mono (by simp;omega) (by simp;omega)) (by simp[iP,AC.fits]))
      | (first
          |(have hfree:GExpr.frees (x.args.take (q+1)) b (x.inner b)=GExpr.frees (x.args.take q) b (x.inner b)++(x.args[q]).free b:=by
              rw[hft];by_cases h0:q=0<;>first|(exfalso;omega)|(simp[h0,GExpr.inner, *];done))
          |(have hfree:GExpr.frees (x.args.take (q+1)) b (x.inner b)=GExpr.frees (x.args.take q) b (x.inner b)++(x.args[q]).free (b++ [x.text]):=by
              rw[hft];by_cases h0:q=0<;>first|(exfalso;omega)|(simp[h0,GExpr.inner, *];done))
         have hfl2:=congrArg B_ hfree
         rw[a_]at hfl2
         refine aS (q+1) ⟨?_, ?_, ?_, ?_⟩ (show q+1≤x.args.length by omega) (show x.args.length - (q+1)<x.args.length - q by omega)
         ·simp[aX,AV.fits,AC.fits,FB,aG]
         ·refine⟨⟨?_,rfl,rfl, ?_,rfl⟩, ?_⟩
          ·first|(rw[hfree];done)|(rw[hfree];simp[nX])
          ·first|(simp only[nX];omega)|(simp only[nX,hfl2];omega)|(simp[nX,hfl2];omega)
          ·first|exact gG _|exact J7 _ _
         ·refine⟨rfl, ?_,rfl,yF _ ⟨rfl,trivial⟩⟩
          simp only[List.cons.injEq,AC.own.injEq,and_true,true_and]
          omega
         ·exact aeC hpb (m':=bx.length+3) hfit (by simp[FB]) (by simp[FB]) (by simp) (by simp[iP,AC.fits,FB]))
    ·obtain rfl:q=x.args.length:=by omega
     repeat' (first|(refine hq_ ?_;clear hK K)|refine ca_ ?_ ?_|refine gq_ ?_|(refine c2_ ?_ ?_<;>(intro hb hb';try(exfalso;omega)))|((with_reducible refine ak ?_);refine ss (aho @GExpr.el (aho @GPart.el (aho @gK (aho @gy (aho @iw (aho @gu (aho @b_.{0} (aho @c_ @a_.{0})))))))) ?_)|((with_reducible refine bf ?_);refine sx (aho @GExpr.el (aho @GPart.el (aho @gK (aho @gy (aho @iw (aho @gu (aho @b_.{0} (aho @c_ @a_.{0})))))))) ?_)|refine nv ?_|(refine rD ?_;intro K hK)|exact aA|exact au)
     simp only[w_]
     exact Lm ⟨⟨⟨rfl,rfl,rfl,rfl,rfl⟩,gG _⟩,⟨rfl,rfl,rfl,yE _ _⟩,iL (bx:= [_,_,_]) (by simp only[iP,j_,hpb];simp[AC.fits]) (hfit.mono (by simp) (by simp)),rfl⟩)
 ·obtain rfl:=hki
  have hkn:k<ox.length:=(List.getElem?_eq_some_iff.1 hk).1
  have hka:∀ys:List Own,(ox++ys)[k]? =some o:=fun ys=>by rw[List.getElem?_append_left hkn];exact hk
  simp only[undef,stS,st0,stN,D.av,D.avN,dS,bU,dW,dU,fA,dL,dI,dH,GExpr.bn,GExpr.aQ,GExpr.aZ,GExpr.el,GPart.bn,GPart.aQ,GPart.aZ,GPart.el,d_,f_,k_,i_,g_,e_,h_,l_,m_]
  repeat' (first|(refine hq_ ?_;clear hK K)|refine ca_ ?_ ?_|refine gq_ ?_|(refine c2_ ?_ ?_<;>(intro hb hb';try(exfalso;omega)))|((with_reducible refine aB ?_);first|refine aI (hc:=zD b x.text) (ha:=by(simp[bM,oV,jV,nT,AC.toD,fC,cO,dM,fB,Value.oneCell',lU,iC,lX,lW,dS,bU,dW,dU,zB,zC,GExpr.bn,hk,hka,hkl];first|done|rfl)) (h:= ?_))|((with_reducible refine Si ?_);first|(refine callV ?_ (Og pb hpb l x.text _ ver ox _ ?_ ?_) ?_))|((with_reducible refine IJ ?_);first|(refine IY ?_ (Og pb hpb l x.text _ ver ox _ ?_ ?_) ?_))|((with_reducible refine ak ?_);refine ss (aho @GExpr.el (aho @GPart.el (aho @gK (aho @gy (aho @iw (aho @gu (aho @b_.{0} (aho @c_ (aho @a_.{0} (aho hneg (aho hk (aho hka hkl)))))))))))) ?_)|((with_reducible refine bf ?_);refine sx (aho @GExpr.el (aho @GPart.el (aho @gK (aho @gy (aho @iw (aho @gu (aho @b_.{0} (aho @c_ (aho @a_.{0} (aho hneg (aho hk (aho hka hkl)))))))))))) ?_)|refine nv ?_|(refine rD ?_;intro K hK)|exact aA|exact au)
  ·with_reducible refine Oh ?_
   refine iL (bx:= [_]) (by simp[iP,AC.fits]) (iL (hfit.mono (by omega) (by simp)) (by simp[iP,AC.fits]))
  ·have hfr:x.free b= [x.text]:=by rw[hfree0];simp[*]
   rw[hfr]
   refine bC ⟨⟨⟨rfl,rfl,rfl,rfl,rfl⟩,gG _⟩,⟨rfl,rfl,rfl,yE _ _⟩, ?_,rfl⟩
   refine iL (bx:= [_,_,_]) (by simp only[iP,j_,hpb];simp[AC.fits]) (hfit.mono (by simp) (by simp))
  all_goals
   (have hfr:x.free b=GExpr.frees x.args b (x.inner b):=by rw[hfree0];simp[*]
    rw[hfr]
    refine iG (X:=Nat) (fun q=> [.k,.d,.k,.d,.k,.d,.k,.d,.d,.d,.d,.d,.d,.d,.d,.d,.d,.d,.d,.d,.d,.d,.d,.d,.d,.d,.d,.d,.d,.d,.d,.d,.d,.d,.d,.d,.d,.d,.d,.d,.d,.d,.d,.d,.d,.d,.d,.d,.d,.d,.d,.d,.d,.d,.d,.d,.d,.k,.k,.v (.c false [.raw (.int .i64 (q:Nat))]),.d,.d,.d,.d,.d,.d,.d,.d,.d,.d,.d,.d,.d,.d,.d,.d,.d,.d,.d,.d,.d,.d]) (fun q=>nX (l++GExpr.frees (x.args.take q) b (x.inner b)) (ver+(GExpr.frees (x.args.take q) b (x.inner b)).length)::ox)
     (fun q bs=>Vo pb (ver+(GExpr.frees (x.args.take q) b (x.inner b)).length) (bx++ [[AC.raw (Value.int r_ x.kind),AC.raw (Value.int r_ x.n),AC.raw (Value.string x.text),AC.sl false (C_ GExpr.toD x.args)]])) (fun q=>q≤x.args.length) (fun q=>x.args.length - q) 0 (A_ _) (by intro q;simp) ?_ ?_
    ·refine⟨?_, ?_, ?_, ?_⟩
     ·simp[aX,AV.fits,AC.fits,FB,aG,hkn]
     ·simp[FB,aK,gG,nM,nX]
     ·simp[FB,aN,ny,nM]
     ·exact aeC hpb (m':=bx.length+3) hfit (by simp[FB]) (by simp[FB]) (by simp) (by simp[iP,AC.fits,FB])
    intro q hq
    have hq':q≤x.args.length:=hq
    clear hq
    simp only[FB,aG]
    by_cases hlt:q<x.args.length
    ·have hmem:=n_ hlt
     have hV:=hI x.args[q] hmem
     have hwm:=BR hmem
     have hft:=vw x.args b (x.inner b) hlt
     have hfl:=oz x.args b (x.inner b) q
     have hil:=yg x b
     have hroom:=Ih x b hlt
     simp only[LX,D.av,GExpr.aZ,GExpr.bn]at hV
     repeat' (first|(refine hq_ ?_;clear hK K)|refine ca_ ?_ ?_|refine gq_ ?_|(refine c2_ ?_ ?_<;>(intro hb hb';try(exfalso;omega)))|((with_reducible refine aB ?_);first|(refine callS (hV b _ _ _ _ _ (agv hk rfl hkl) ?_ ?_ ?_) ?_)|(refine callS (hV (b++ [x.text]) _ _ _ _ _ (Yj rfl (by simp[ls])) ?_ ?_ ?_) ?_))|((with_reducible refine ak ?_);refine ss (aho @GExpr.el (aho @GPart.el (aho @gK (aho @gy (aho @iw (aho @gu (aho @b_.{0} (aho @c_ (aho @a_.{0} (aho hk (aho hka hkl))))))))))) ?_)|((with_reducible refine bf ?_);refine sx (aho @GExpr.el (aho @GPart.el (aho @gK (aho @gy (aho @iw (aho @gu (aho @b_.{0} (aho @c_ (aho @a_.{0} (aho hk (aho hka hkl))))))))))) ?_)|refine nv ?_|(refine rD ?_;intro K hK)|exact aA|exact au)
     all_goals first
      |(simp only[a_,e_,h_];omega)
      | (with_reducible refine Oh ?_
         first
          |exact iL (hfit.mono (by simp) (by simp)) (by simp[iP,AC.fits])
          |exact iL (hfit.mono (by simp;omega) (by simp;omega)) (by simp[iP,AC.fits]))
      | (first
          |(have hfree:GExpr.frees (x.args.take (q+1)) b (x.inner b)=GExpr.frees (x.args.take q) b (x.inner b)++(x.args[q]).free b:=by
              rw[hft];by_cases h0:q=0<;>first|(exfalso;omega)|(simp[h0,GExpr.inner, *];done))
          |(have hfree:GExpr.frees (x.args.take (q+1)) b (x.inner b)=GExpr.frees (x.args.take q) b (x.inner b)++(x.args[q]).free (b++ [x.text]):=by
              rw[hft];by_cases h0:q=0<;>first|(exfalso;omega)|(simp[h0,GExpr.inner, *];done))
         have hfl2:=congrArg B_ hfree
         rw[a_]at hfl2
         refine aS (q+1) ⟨?_, ?_, ?_, ?_⟩ (show q+1≤x.args.length by omega) (show x.args.length - (q+1)<x.args.length - q by omega)
         ·simp[aX,AV.fits,AC.fits,FB,aG,hkn]
         ·refine⟨⟨?_,rfl,rfl, ?_,rfl⟩, ?_⟩
          ·first|(rw[hfree];done)|(rw[hfree];simp[nX])
          ·first|(simp only[nX];omega)|(simp only[nX,hfl2];omega)|(simp[nX,hfl2];omega)
          ·first|exact gG _|exact J7 _ _
         ·refine⟨rfl, ?_,rfl,yF _ ⟨rfl,trivial⟩⟩
          simp only[List.cons.injEq,AC.own.injEq,and_true,true_and]
          omega
         ·exact aeC hpb (m':=bx.length+3) hfit (by simp[FB]) (by simp[FB]) (by simp) (by simp[iP,AC.fits,FB]))
    ·obtain rfl:q=x.args.length:=by omega
     repeat' (first|(refine hq_ ?_;clear hK K)|refine ca_ ?_ ?_|refine gq_ ?_|(refine c2_ ?_ ?_<;>(intro hb hb';try(exfalso;omega)))|((with_reducible refine ak ?_);refine ss (aho @GExpr.el (aho @GPart.el (aho @gK (aho @gy (aho @iw (aho @gu (aho @b_.{0} (aho @c_ (aho @a_.{0} (aho hk (aho hka hkl))))))))))) ?_)|((with_reducible refine bf ?_);refine sx (aho @GExpr.el (aho @GPart.el (aho @gK (aho @gy (aho @iw (aho @gu (aho @b_.{0} (aho @c_ (aho @a_.{0} (aho hk (aho hka hkl))))))))))) ?_)|refine nv ?_|(refine rD ?_;intro K hK)|exact aA|exact au)
     simp only[w_]
     exact Lm ⟨⟨⟨rfl,rfl,rfl,rfl,rfl⟩,gG _⟩,⟨rfl,rfl,rfl,yE _ _⟩,iL (bx:= [_,_,_]) (by simp only[iP,j_,hpb];simp[AC.fits]) (hfit.mono (by simp) (by simp)),rfl⟩)
theorem GPart.expr_wt(x:GPart):x.expr.toD.wt≤x.toD.wt:=by
 simp only[GPart.aP,D.wt,D.wts];omega
theorem Yt(pb:List AC)(hpb:∀n m,pb.all (AC.fits n m)=true):∀(n:Nat) (x:GExpr),x.toD.wt<n→LX pb x:=by
 intro n
 induction n with
 |zero=>intro x h;omega
 | succ n ih=>
   intro x h
   exact aac pb hpb x (fun y hy=>ih y (by have:=BR hy;omega))
theorem adM(pb:List AC)(hpb:∀n m,pb.all (AC.fits n m)=true)(x:GExpr):LX pb x:=Yt pb hpb _ x (u_ _)
theorem adN(pb:List AC)(hpb:∀n m,pb.all (AC.fits n m)=true)(x:GExpr)(hw:x.toD.wt≤1048576):
 iH Tryz.prog 108 [.bptr 2 0,.c true (x.toD.acs false),.c false [.raw (.slice none 0 0)]] [nX [] 0] (Vo pb 0 []) aak [nX (x.free []) (x.free []).length] (Vo pb (x.free []).length []):=by
 have h:=adM pb hpb x [] [] (.c false [.sl true []]) 0 [] [] afK (by simp;omega) (by simp;omega) (by simp[iP])
 simp only[g_,Nat.zero_add,D.av,GExpr.aZ]at h
 refine SA h fun E w vs hv=> ?_
 match vs,hv with
 | [v1,v2,v3],hv=>exact⟨hv.1,hv.2.1,agb hv.2.2.1,trivial⟩
def QG :IC:=(zd_ [zz_ 1 (.box (.t 0)),zz_ 2 (.mov (.k (.slice none 0 0)))] (zd_ [zz_ 5 (.brow true 9 1 0 false []),zz_ 3 (.alloc [(.slice none 0 0)]),⟨none,none,.store 1 (.t 3) (.t 5)⟩] (zd_ [zz_ 6 (.mkf 107 [(.t 3)]),zz_ 7 (.bld [.nilFunc,.nilFunc] [(0,1,(.t 6))]),zz_ 8 (.box (.t 7)),zw_ 4 8] (zd_ [zw_ 9 4,zr_ 10 4 1,zz_ 11 (.call 108 [(.t 9),(.t 10),(.k (.slice none 0 0))])] (zd_ [zs_ 12 1 3,zq_ 13 67 12,zw_ 2 13] .ret)))))
theorem QF :ay Tryz.prog (Tryz.f94.body.getD .skip)=some QG:=by kernel_rfl
theorem Bh(x:GExpr)(hw:x.toD.wt≤1048576):dA Tryz.prog 94 [x.toD] ((Ai (x.free [])).map ls) 9 1:=by
 refine fK (fn:=Tryz.f94) (t:=2) (hc:=QF) (h:= ?_)
 change AWP _ _ _ (st0 14 _)
 have hm:=x.Ii []
 have hv:=adN (x.toD.acs false) (fun n m=>by simp[GExpr.bn,AC.fits]) x hw
 unfold QG;refine zb_ ?_
 simp only[GExpr.bn]at hv
 simp only[undef,stS,st0,stN,D.av,D.avN,dS,bU,dW,dU,fA,dL,dI,dH,GExpr.bn,GExpr.aQ,GExpr.aZ,GExpr.el,GPart.bn,GPart.aQ,GPart.aZ,GPart.el,d_,f_,k_,i_,g_,e_,h_,l_,m_]
 repeat' (first|(refine hq_ ?_;clear hK K)|refine ca_ ?_ ?_|refine gq_ ?_|(refine c2_ ?_ ?_<;>(intro hb hb';try(exfalso;omega)))|((with_reducible refine aB ?_);first|(refine callS hv ?_)|(refine bG (Ah (x.free []) (by omega)) (dF _) ?_ ?_))|((with_reducible refine ak ?_);refine ss (aho @GExpr.el (aho @GPart.el (aho @gK (aho @gy (aho @iw (aho @gu (aho @b_.{0} (aho @c_ @a_.{0})))))))) ?_)|((with_reducible refine bf ?_);refine sx (aho @GExpr.el (aho @GPart.el (aho @gK (aho @gy (aho @iw (aho @gu (aho @b_.{0} (aho @c_ @a_.{0})))))))) ?_)|refine nv ?_|(refine rD ?_;intro K hK)|exact aA|exact au)
 exact bC ⟨1,0,_,rfl,rfl,rfl,rfl,rfl,rfl,p_ rfl⟩
def Qr :IC:=(zd_ [zz_ 1 (.box (.t 0)),zz_ 2 (.mov (.k (.slice none 0 0)))] (.seq (zd_ [zt_ 3 0 1,zs_ 4 1 3,zm_ 5 .neq 4 2] (.cond (.t 5) (zd_ [zz_ 2 (.mov (.k (.slice none 0 0)))] .ret) .skip)) (zd_ [zt_ 6 2 1,zr_ 7 4 6,zq_ 8 94 7,zw_ 2 8] .ret)))
theorem Qq :ay Tryz.prog (Tryz.f66.body.getD .skip)=some Qr:=by kernel_rfl
theorem wI(x:GPart)(hw:x.expr.toD.wt≤1048576):dA Tryz.prog 66 [x.toD] ((dh x).map ls) 9 1:=by
 refine lI (fn:=Tryz.f66) (t:=2) (hc:=Qq) (h:= ?_)
 change AWP _ _ _ (st0 9 _)
 have hf:=Bh x.expr hw
 unfold Qr;refine zb_ ?_
 simp only[undef,stS,st0,stN,D.av,D.avN,dS,bU,dW,dU,fA,dL,dI,dH,GExpr.bn,GExpr.aQ,GExpr.aZ,GExpr.el,GPart.bn,GPart.aQ,GPart.aZ,GPart.el,d_,f_,k_,i_,g_,e_,h_,l_,m_]
 repeat' (first|(refine hq_ ?_;clear hK K)|refine ca_ ?_ ?_|refine gq_ ?_|(refine c2_ ?_ ?_<;>(intro hb hb';try(exfalso;omega)))|((with_reducible refine aB ?_);first|(refine bG hf (dF _) ?_ ?_))|((with_reducible refine ak ?_);refine ss (aho @GExpr.el (aho @GPart.el (aho @gK (aho @gy (aho @iw (aho @gu (aho @b_.{0} (aho @c_ @a_.{0})))))))) ?_)|((with_reducible refine bf ?_);refine sx (aho @GExpr.el (aho @GPart.el (aho @gK (aho @gy (aho @iw (aho @gu (aho @b_.{0} (aho @c_ @a_.{0})))))))) ?_)|refine nv ?_|(refine rD ?_;intro K hK)|exact aA|exact au)
 ·have hu:dh x= []:=by simp[dh, *]
  rw[hu]
  exact acC rfl
 ·have hu:dh x=Ai (x.expr.free []):=by simp[dh, *]
  rw[hu]
  exact Dc rfl rfl rfl rfl rfl rfl (p_ rfl)
theorem aah(x:GPart):(dh x).length≤1+x.toD.wt:=by
 unfold dh
 split
 ·have:=JZ (x.expr.free [])
  have:=x.expr.jy []
  have:=x.expr_wt
  omega
 ·simp
theorem xX{l:List GPart}(hw:l.length+D.wts (l.map GPart.toD)≤1048576){k:Nat}(h:k<l.length):(l[k]).expr.toD.wt≤1048576:=by
 have h4:=uM (l.map GPart.toD) k (by simpa using h)
 rw[v_]at h4
 have:=(l[k]).expr_wt
 omega
theorem nZ(l:List GPart)(s:ByteArray)(hn:l.length≤1048576):aV Tryz.prog 24 [.sl (l.map GPart.toD),ls s] (.c false [.raw (.int .i64 (O9 (iE l s l.length)))]):=Ad fun w vs hr=>by
 obtain⟨v,u,rfl,h1,h2⟩:=aaN hr
 obtain⟨fp,hS⟩:=DK h1
 obtain rfl:=uQ h2
 exact MP l s fp v w hS hn
theorem og(l:List GPart)(s:ByteArray)(hn:l.length≤1048576):aV Tryz.prog 22 [.sl (l.map GPart.toD),ls s] (.c false [.raw (.int .i64 (O9 (iE l s l.length)))]):=Ad fun w vs hr=>by
 obtain⟨v,u,rfl,h1,h2⟩:=aaN hr
 obtain⟨fp,hS⟩:=DK h1
 obtain rfl:=uQ h2
 exact MQ l s fp v w hS hn
end Go.Proofs.YtfjmoicellpnhaaGreat
