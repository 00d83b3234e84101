/-
  Texts joined: Free2 Uses Visit0 Visit Missing.
-/
import Derived.Test.YtfjmoicellpnhaaGreatJV
import Derived.Test.YtfjmoicellpnhaaGreatJE
import Derived.Test.YtfjmoicellpnhaaGreatJR
set_option maxHeartbeats 16000000
namespace Go.Proofs.YtfjmoicellpnhaaGreat
open Go.RowKit
open List renaming length_append→a_,append_assoc→b_,length_cons→d_,length_nil→e_,map_cons→f_,cons_append→g_,map_nil→h_,nil_append→i_,take_succ_eq_append_getElem→j_,replicate→k_,all_cons→n_,map_append→o_,length_take→q_,getElem_mem→r_,take_length→s_,length_map→t_,getElem_map→u_,map_take→w_,take_succ_cons→x_,filter_append→z_,filter_cons→B_,length→G_,map→H_
open Nat renaming add_assoc→c_,reduceAdd→l_,reduceSub→m_,lt_succ_self→A_,le_refl→E_,zero_le→F_
open Or renaming inl→p_
open IntKind renaming i64→v_
set_option linter.unusedSimpArgs false
set_option linter.unusedVariables false
mutual
def GExpr.free :GExpr→List ByteArray→List ByteArray
 | .mk kind n text args,b=>if(kind==3) && !mV b text then [text]else GExpr.frees args b (if kind==7 || kind==9 then b++ [text]else b)
def GExpr.frees :List GExpr→List ByteArray→List ByteArray→List ByteArray
 | [],_,_=> []
 |a::r,b0,b1=>GExpr.free a b0++GExpr.frees r b1 b1
end
def GExpr.inner(x:GExpr)(b:List ByteArray):List ByteArray:=if x.kind==7 || x.kind==9 then b++ [x.text]else b
theorem GExpr.free_eq(x:GExpr)(b:List ByteArray):x.free b=if(x.kind==3) && !mV b x.text then [x.text]else GExpr.frees x.args b (x.inner b):=by
 cases x with
 |mk kind n text args=>rw[GExpr.free];rfl
theorem nG(b0 b1:List ByteArray):GExpr.frees [] b0 b1= []:=by rw[GExpr.frees]
theorem Gs(a:GExpr):∀(l:List GExpr) (b0 b1:List ByteArray),GExpr.frees (l++ [a]) b0 b1=GExpr.frees l b0 b1++a.free (if l.length=0 then b0 else b1)
 | [],b0,b1=>by rw[i_,GExpr.frees,GExpr.frees,nG];simp
 | x::l,b0,b1=>by
   rw[g_,GExpr.frees,GExpr.frees,Gs a l]
   have h:(if l.length=0 then b1 else b1)=b1:=by split<;>rfl
   rw[h,if_neg (by simp),b_]
theorem uQ(l:List GExpr)(b0 b1:List ByteArray){i:Nat}(h:i<l.length):GExpr.frees (l.take (i+1)) b0 b1=GExpr.frees (l.take i) b0 b1++(l[i]).free (if i=0 then b0 else b1):=by
 rw[j_ h,Gs,q_,Nat.min_eq_left (by omega)]
theorem GExpr.Xc(x:GExpr):x.toD.wt=x.text.size+(x.args.length+D.wts (x.args.map GExpr.toD)):=by
 rw[GExpr.aP]
 simp[D.wt,D.wts,li,ls,oP]
mutual
theorem GExpr.jy :∀(x:GExpr) (b:List ByteArray),(x.free b).length≤1+x.toD.wt
 | .mk kind n text args,b=>by
   rw[GExpr.free,GExpr.Xc]
   split
   ·simp
   ·have:=GExpr.uy args b (if kind==7 || kind==9 then b++ [text]else b)
    simp only[GExpr.args,GExpr.text]
    omega
theorem GExpr.uy :∀(l:List GExpr) (b0 b1:List ByteArray),(GExpr.frees l b0 b1).length≤l.length+D.wts (l.map GExpr.toD)
 | [],_,_=>by rw[nG];simp
 | a::r,b0,b1=>by
   rw[GExpr.frees,a_,f_,D.wts,d_]
   have h1:=GExpr.jy a b0
   have h2:=GExpr.uy r b1 b1
   omega
end
theorem YL(l:List D)(i:Nat):D.wts (l.take i)≤D.wts l:=by
 induction l generalizing i with
 |nil=>simp
 | cons d l ih=>
   cases i with
   |zero=>simp[D.wts]
   |succ i=>rw[x_,D.wts,D.wts];have:=ih i;omega
theorem og(l:List GExpr)(b0 b1:List ByteArray)(i:Nat):(GExpr.frees (l.take i) b0 b1).length≤l.length+D.wts (l.map GExpr.toD):=by
 have h1:=GExpr.uy (l.take i) b0 b1
 have h2:=YL (l.map GExpr.toD) i
 rw[w_]at h1
 have h3:(l.take i).length≤l.length:=by rw[q_];omega
 omega
theorem AZ{x y:GExpr}(h:y∈x.args):y.toD.wt+1≤x.toD.wt:=by
 rw[GExpr.Xc x]
 have h1:=D.Uo (List.mem_map_of_mem (f:=GExpr.toD) h)
 have h2:=List.length_pos_of_mem h
 omega
theorem xI(x:GExpr)(b:List ByteArray):(x.inner b).length≤b.length+1:=by
 unfold GExpr.inner
 split<;>simp
theorem Fv(l:List ByteArray)(s:ByteArray):aV Tryz.prog 110 [.sl (l.map ls),ls s] (.c false [.raw (.bool (mV l s))]):=D5 fun w vs hr=>by
 obtain⟨v,u,rfl,h1,h2⟩:=XF hr
 obtain⟨fp,hS⟩:=zI h1
 obtain rfl:=rV h2
 exact Fz l s fp v w hS
def VX :IC:=(zd_ [zz_ 2 (.box (.t 0)),zz_ 4 (.mov (.k (.slice none 0 0)))] (zd_ [zz_ 8 (.brow true 9 1 0 false []),zw_ 5 8] (.seq (zd_ [zt_ 9 0 2,zs_ 10 1 9,zm_ 11 .eql 10 3,zw_ 12 11,zv_ 13 12 1,zy_ 14 12 (.fad 2 (.t 2)),zy_ 15 12 (.load 1 false (.t 14)),zy_ 16 12 (.call 110 [(.t 13),(.t 15)]),zy_ 17 12 (.not (.t 16)),zh_ 18 12 17 false] (.cond (.t 18) (zd_ [zw_ 19 5,zt_ 20 2 2,zs_ 21 1 20,zz_ 22 (.brow false 9 1 1 false [(.t 21)]),zz_ 23 (.app 9 1 (.t 19) (.t 22)),zw_ 4 23] .ret) .skip)) (.seq (zd_ [zk_ 6 0] (.block 0 (.loop (.seq (zd_ [zw_ 24 6,zt_ 25 3 2,zs_ 26 1 25,zf_ 27 false 26,zl_ 28 .lss 24 27] (.cond (.t 28) .skip (.exit 0))) (.seq (.block 1 (zd_ [zw_ 31 1,zw_ 7 31] (.seq (zd_ [zt_ 32 0 2,zs_ 33 1 32,zm_ 34 .eql 33 7,zw_ 35 34,zx_ 36 35 (.fad 0 (.t 2)),zx_ 37 35 (.load 1 false (.t 36)),zx_ 38 35 (.bin .eql (.t 37) (.k (.int .i64 9))),zg_ 39 35 true 38,zw_ 40 39,zv_ 41 40 6,zy_ 42 40 (.bin .gtr (.t 41) (.k (.int .i64 0))),zh_ 43 40 42 false] (.cond (.t 43) (.reg true [zz_ 44 (.brow true 9 1 0 false []),zw_ 45 1,zz_ 46 (.app 9 1 (.t 44) (.t 45)),zt_ 47 2 2,zs_ 48 1 47,zz_ 49 (.brow false 9 1 1 false [(.t 48)]),zz_ 50 (.app 9 1 (.t 46) (.t 49)),zw_ 7 50]) .skip)) (.reg false [zw_ 51 5,zt_ 52 3 2,zs_ 53 1 52,zw_ 54 6,ze_ 55 4 53 54,zr_ 56 4 55,zw_ 57 7,zp_ 58 97 56 57,zz_ 59 (.app 9 1 (.t 51) (.t 58)),zw_ 5 59])))) (.reg false [zw_ 29 6,zm_ 30 .add 29 1,zw_ 6 30])))))) (zd_ [zw_ 60 5,zw_ 4 60] .ret)))))
theorem Tn :aF Tryz.prog (Tryz.f97.body.getD .skip)=some VX:=by kernel_rfl
def AP(x:GExpr):Prop:=∀b:List ByteArray,b.length+x.toD.wt≤1048577→eH Tryz.prog 97 [x.toD,.sl (b.map ls)] ((x.free b).map ls) 9 1
theorem RP(x:GExpr)(hI:∀y∈x.args,AP y):AP x:=by
 intro b hw
 have hwl:x.args.length+D.wts (x.args.map GExpr.toD)≤1048577:=by have:=x.Xc;omega
 refine iM (fn:=Tryz.f97) (t:=4) (by kernel_rfl) (by kernel_rfl) (by kernel_rfl) Tn ?_
 change AWP _ _ _ (st0 61 _)
 rw[GExpr.free_eq]
 unfold VX;refine zb_ ?_
 refine sS trivial ?_
 have hloop:(x.kind==3 && !mV b x.text)=false→True:=fun _=>trivial
 cases k3:(x.kind==3)with
 | true=>
   cases hh:mV b x.text with
   | false=>
     rw[if_pos (by simp[k3,hh])]
     repeat' (first|((with_reducible refine ak ?_);intro K hK)|((with_reducible refine hK _ ?_);clear hK K)|(with_reducible refine aj ?_ ?_)|((with_reducible refine gi ?_);first|(refine ay ?_ ?_;rfl)|(refine aA ?_ ?_;(rfl;refine gF ?_))|((with_reducible refine gS rfl ?_ ?_)<;>(intro hb hb';try(exfalso;omega))))|((with_reducible refine aI ?_);first|refine aO (hc:=(Fv b x.text)) (h:= ?_))|((with_reducible refine aB ?_);refine ss (afY @GExpr.el (afY k3 hh)) ?_)|refine nv ?_|(with_reducible (refine cS rfl ?_ ?_)<;>(intro hb hb';try(exfalso;omega)))|exact aG|exact aC)
     exact bP ⟨0,1,_,rfl,rfl,rfl,rfl,rfl,rfl,p_ rfl⟩
   | true=>
     rw[if_neg (by simp[k3,hh])]
     repeat' (first|((with_reducible refine ak ?_);intro K hK)|((with_reducible refine hK _ ?_);clear hK K)|(with_reducible refine aj ?_ ?_)|((with_reducible refine gi ?_);first|(refine ay ?_ ?_;rfl)|(refine aA ?_ ?_;(rfl;refine gF ?_))|((with_reducible refine gS rfl ?_ ?_)<;>(intro hb hb';try(exfalso;omega))))|((with_reducible refine aI ?_);first|refine aO (hc:=(Fv b x.text)) (h:= ?_))|((with_reducible refine aB ?_);refine ss (afY @GExpr.el (afY k3 hh)) ?_)|refine nv ?_|(with_reducible (refine cS rfl ?_ ?_)<;>(intro hb hb';try(exfalso;omega)))|exact aG|exact aC)
     refine bF (X:=Nat×Nat) (fun q=> [.d,.k,.k,.d,.d,.v (.c false [.own 0 q.2]),.v (.c false [.raw (.int .i64 (q.1:Nat))]),.d,.d,.d,.d,.d,.d,.d,.d,.d,.d,.d,.d,.d,.d,.d,.d,.d,.d,.d,.d,.d,.d,.d,.d,.d,.d,.d,.d,.d,.d,.d,.d,.d,.d,.d,.d,.d,.d,.d,.d,.d,.d,.d,.d,.d,.d,.d,.d,.d,.d,.d,.d,.d,.d]) (fun q=> [⟨(GExpr.frees (x.args.take q.1) b (x.inner b)).map ls,9,1,q.2,true⟩]) (fun q bs=>bs) (fun q=>q.1≤x.args.length) (fun q=>x.args.length - q.1) (0,0) (by simp) ?_ ?_
     ·simp[bf,bI,aY,aZ,AV.fits,AC.fits,FB,aW,nG,GExpr.frees]
     rintro⟨i,v⟩ hi
     have hi':i≤x.args.length:=hi
     clear hi
     simp only[FB,aW]
     by_cases hlt:i<x.args.length
     ·have ht:decide ((i:Int)<(x.args.length:Int))=true:=by simp;omega
      have hw1:IntKind.i64.wrap ((i:Int)+1)=((i+1:Nat):Int):=dU (by omega)
      have hix:=dH GExpr.toD x.args hlt
      have hmem:x.args[i]∈x.args:=r_ hlt
      have hwm:=AZ hmem
      have hfl:=og x.args b (x.inner b) i
      have hft:=uQ x.args b (x.inner b) hlt
      have hil:=xI x b
      by_cases hi0:i=0
      ·have g:decide ((i:Int) > 0)=false:=by simp;omega
       cases k7:(x.kind==7)with
       | true=>
         have hfa:=GExpr.jy x.args[i] (b)
         have hbl:(b).length≤b.length+1:=by simp
         have hfree:GExpr.frees (x.args.take (i+1)) b (x.inner b)=GExpr.frees (x.args.take i) b (x.inner b)++(x.args[i]).free (b):=by rw[hft];simp[GExpr.inner,hi0]
         have hI1:=hI x.args[i] hmem (b) (by omega)
         repeat' (first|((with_reducible refine hK _ ?_);clear hK K)|(with_reducible refine aj ?_ ?_)|((with_reducible refine gi ?_);first|(refine ay ?_ ?_;rfl)|(refine aA ?_ ?_;(rfl;refine gF ?_))|((with_reducible refine gS rfl ?_ ?_)<;>(intro hb hb';try(exfalso;omega))))|((with_reducible refine gxi ?_);first|(refine aQ ?_ ?_;rfl)|(refine aS ?_ ?_;(rfl;refine gxF ?_))|((with_reducible refine gxS rfl ?_ ?_)<;>(intro hb hb';try(exfalso;omega))))|((with_reducible refine aI ?_);first|(refine dQ hI1 (cZ _) ?_ ?_))|((with_reducible refine aB ?_);refine ss (afY @GExpr.el (afY ht (afY hw1 (afY hix (afY k7 g))))) ?_)|((with_reducible refine bD ?_);refine sx (afY @GExpr.el (afY ht (afY hw1 (afY hix (afY k7 g))))) ?_)|refine nv ?_|(refine rD ?_;intro K hK)|(with_reducible (refine cS rfl ?_ ?_)<;>(intro hb hb';try(exfalso;omega)))|exact aG|exact aC)
         refine bC (i+1,v+1) ?_ ?_ ?_
         ·simp[bf,bI,aY,aZ,AV.fits,AC.fits,FB,aW,hfree]
         ·show i+1≤x.args.length;omega
         ·show x.args.length - (i+1)<x.args.length - i;omega
       | false=>
         cases k9:(x.kind==9)with
         | true=>
           have hfa:=GExpr.jy x.args[i] (b)
           have hbl:(b).length≤b.length+1:=by simp
           have hfree:GExpr.frees (x.args.take (i+1)) b (x.inner b)=GExpr.frees (x.args.take i) b (x.inner b)++(x.args[i]).free (b):=by rw[hft];simp[GExpr.inner,hi0]
           have hI1:=hI x.args[i] hmem (b) (by omega)
           repeat' (first|((with_reducible refine hK _ ?_);clear hK K)|(with_reducible refine aj ?_ ?_)|((with_reducible refine gi ?_);first|(refine ay ?_ ?_;rfl)|(refine aA ?_ ?_;(rfl;refine gF ?_))|((with_reducible refine gS rfl ?_ ?_)<;>(intro hb hb';try(exfalso;omega))))|((with_reducible refine gxi ?_);first|(refine aQ ?_ ?_;rfl)|(refine aS ?_ ?_;(rfl;refine gxF ?_))|((with_reducible refine gxS rfl ?_ ?_)<;>(intro hb hb';try(exfalso;omega))))|((with_reducible refine aI ?_);first|(refine dQ hI1 (cZ _) ?_ ?_))|((with_reducible refine aB ?_);refine ss (afY @GExpr.el (afY ht (afY hw1 (afY hix (afY k7 (afY k9 g)))))) ?_)|((with_reducible refine bD ?_);refine sx (afY @GExpr.el (afY ht (afY hw1 (afY hix (afY k7 (afY k9 g)))))) ?_)|refine nv ?_|(refine rD ?_;intro K hK)|(with_reducible (refine cS rfl ?_ ?_)<;>(intro hb hb';try(exfalso;omega)))|exact aG|exact aC)
           refine bC (i+1,v+1) ?_ ?_ ?_
           ·simp[bf,bI,aY,aZ,AV.fits,AC.fits,FB,aW,hfree]
           ·show i+1≤x.args.length;omega
           ·show x.args.length - (i+1)<x.args.length - i;omega
         | false=>
           have hfa:=GExpr.jy x.args[i] (b)
           have hbl:(b).length≤b.length+1:=by simp
           have hfree:GExpr.frees (x.args.take (i+1)) b (x.inner b)=GExpr.frees (x.args.take i) b (x.inner b)++(x.args[i]).free (b):=by rw[hft];simp[GExpr.inner,hi0]
           have hI1:=hI x.args[i] hmem (b) (by omega)
           repeat' (first|((with_reducible refine hK _ ?_);clear hK K)|(with_reducible refine aj ?_ ?_)|((with_reducible refine gi ?_);first|(refine ay ?_ ?_;rfl)|(refine aA ?_ ?_;(rfl;refine gF ?_))|((with_reducible refine gS rfl ?_ ?_)<;>(intro hb hb';try(exfalso;omega))))|((with_reducible refine gxi ?_);first|(refine aQ ?_ ?_;rfl)|(refine aS ?_ ?_;(rfl;refine gxF ?_))|((with_reducible refine gxS rfl ?_ ?_)<;>(intro hb hb';try(exfalso;omega))))|((with_reducible refine aI ?_);first|(refine dQ hI1 (cZ _) ?_ ?_))|((with_reducible refine aB ?_);refine ss (afY @GExpr.el (afY ht (afY hw1 (afY hix (afY k7 k9))))) ?_)|((with_reducible refine bD ?_);refine sx (afY @GExpr.el (afY ht (afY hw1 (afY hix (afY k7 k9))))) ?_)|refine nv ?_|(refine rD ?_;intro K hK)|(with_reducible (refine cS rfl ?_ ?_)<;>(intro hb hb';try(exfalso;omega)))|exact aG|exact aC)
           refine bC (i+1,v+1) ?_ ?_ ?_
           ·simp[bf,bI,aY,aZ,AV.fits,AC.fits,FB,aW,hfree]
           ·show i+1≤x.args.length;omega
           ·show x.args.length - (i+1)<x.args.length - i;omega
      ·have g:decide ((i:Int) > 0)=true:=by simp;omega
       cases k7:(x.kind==7)with
       | true=>
         have hfa:=GExpr.jy x.args[i] (b++ [x.text])
         have hbl:(b++ [x.text]).length≤b.length+1:=by simp
         have hfree:GExpr.frees (x.args.take (i+1)) b (x.inner b)=GExpr.frees (x.args.take i) b (x.inner b)++(x.args[i]).free (b++ [x.text]):=by rw[hft];simp[GExpr.inner,hi0,k7]
         have hI1:=hI x.args[i] hmem (b++ [x.text]) (by omega)
         simp only[o_,f_,h_]at hI1
         repeat' (first|((with_reducible refine hK _ ?_);clear hK K)|(with_reducible refine aj ?_ ?_)|((with_reducible refine gi ?_);first|(refine ay ?_ ?_;rfl)|(refine aA ?_ ?_;(rfl;refine gF ?_))|((with_reducible refine gS rfl ?_ ?_)<;>(intro hb hb';try(exfalso;omega))))|((with_reducible refine gxi ?_);first|(refine aQ ?_ ?_;rfl)|(refine aS ?_ ?_;(rfl;refine gxF ?_))|((with_reducible refine gxS rfl ?_ ?_)<;>(intro hb hb';try(exfalso;omega))))|((with_reducible refine aI ?_);first|(refine dQ hI1 (cZ _) ?_ ?_))|((with_reducible refine aB ?_);refine ss (afY @GExpr.el (afY ht (afY hw1 (afY hix (afY k7 g))))) ?_)|((with_reducible refine bD ?_);refine sx (afY @GExpr.el (afY ht (afY hw1 (afY hix (afY k7 g))))) ?_)|refine nv ?_|(refine rD ?_;intro K hK)|(with_reducible (refine cS rfl ?_ ?_)<;>(intro hb hb';try(exfalso;omega)))|exact aG|exact aC)
         refine bC (i+1,v+1) ?_ ?_ ?_
         ·simp[bf,bI,aY,aZ,AV.fits,AC.fits,FB,aW,hfree]
         ·show i+1≤x.args.length;omega
         ·show x.args.length - (i+1)<x.args.length - i;omega
       | false=>
         cases k9:(x.kind==9)with
         | true=>
           have hfa:=GExpr.jy x.args[i] (b++ [x.text])
           have hbl:(b++ [x.text]).length≤b.length+1:=by simp
           have hfree:GExpr.frees (x.args.take (i+1)) b (x.inner b)=GExpr.frees (x.args.take i) b (x.inner b)++(x.args[i]).free (b++ [x.text]):=by rw[hft];simp[GExpr.inner,hi0,k7,k9]
           have hI1:=hI x.args[i] hmem (b++ [x.text]) (by omega)
           simp only[o_,f_,h_]at hI1
           repeat' (first|((with_reducible refine hK _ ?_);clear hK K)|(with_reducible refine aj ?_ ?_)|((with_reducible refine gi ?_);first|(refine ay ?_ ?_;rfl)|(refine aA ?_ ?_;(rfl;refine gF ?_))|((with_reducible refine gS rfl ?_ ?_)<;>(intro hb hb';try(exfalso;omega))))|((with_reducible refine gxi ?_);first|(refine aQ ?_ ?_;rfl)|(refine aS ?_ ?_;(rfl;refine gxF ?_))|((with_reducible refine gxS rfl ?_ ?_)<;>(intro hb hb';try(exfalso;omega))))|((with_reducible refine aI ?_);first|(refine dQ hI1 (cZ _) ?_ ?_))|((with_reducible refine aB ?_);refine ss (afY @GExpr.el (afY ht (afY hw1 (afY hix (afY k7 (afY k9 g)))))) ?_)|((with_reducible refine bD ?_);refine sx (afY @GExpr.el (afY ht (afY hw1 (afY hix (afY k7 (afY k9 g)))))) ?_)|refine nv ?_|(refine rD ?_;intro K hK)|(with_reducible (refine cS rfl ?_ ?_)<;>(intro hb hb';try(exfalso;omega)))|exact aG|exact aC)
           refine bC (i+1,v+1) ?_ ?_ ?_
           ·simp[bf,bI,aY,aZ,AV.fits,AC.fits,FB,aW,hfree]
           ·show i+1≤x.args.length;omega
           ·show x.args.length - (i+1)<x.args.length - i;omega
         | false=>
           have hfa:=GExpr.jy x.args[i] (b)
           have hbl:(b).length≤b.length+1:=by simp
           have hfree:GExpr.frees (x.args.take (i+1)) b (x.inner b)=GExpr.frees (x.args.take i) b (x.inner b)++(x.args[i]).free (b):=by rw[hft];simp[GExpr.inner,hi0,k7,k9]
           have hI1:=hI x.args[i] hmem (b) (by omega)
           repeat' (first|((with_reducible refine hK _ ?_);clear hK K)|(with_reducible refine aj ?_ ?_)|((with_reducible refine gi ?_);first|(refine ay ?_ ?_;rfl)|(refine aA ?_ ?_;(rfl;refine gF ?_))|((with_reducible refine gS rfl ?_ ?_)<;>(intro hb hb';try(exfalso;omega))))|((with_reducible refine gxi ?_);first|(refine aQ ?_ ?_;rfl)|(refine aS ?_ ?_;(rfl;refine gxF ?_))|((with_reducible refine gxS rfl ?_ ?_)<;>(intro hb hb';try(exfalso;omega))))|((with_reducible refine aI ?_);first|(refine dQ hI1 (cZ _) ?_ ?_))|((with_reducible refine aB ?_);refine ss (afY @GExpr.el (afY ht (afY hw1 (afY hix (afY k7 k9))))) ?_)|((with_reducible refine bD ?_);refine sx (afY @GExpr.el (afY ht (afY hw1 (afY hix (afY k7 k9))))) ?_)|refine nv ?_|(refine rD ?_;intro K hK)|(with_reducible (refine cS rfl ?_ ?_)<;>(intro hb hb';try(exfalso;omega)))|exact aG|exact aC)
           refine bC (i+1,v+1) ?_ ?_ ?_
           ·simp[bf,bI,aY,aZ,AV.fits,AC.fits,FB,aW,hfree]
           ·show i+1≤x.args.length;omega
           ·show x.args.length - (i+1)<x.args.length - i;omega
     ·have ht:decide ((i:Int)<(x.args.length:Int))=false:=by simp;omega
      repeat' (first|((with_reducible refine ak ?_);intro K hK)|((with_reducible refine hK _ ?_);clear hK K)|(with_reducible refine aj ?_ ?_)|((with_reducible refine gi ?_);first|(refine ay ?_ ?_;rfl)|(refine aA ?_ ?_;(rfl;refine gF ?_))|((with_reducible refine gS rfl ?_ ?_)<;>(intro hb hb';try(exfalso;omega))))|((with_reducible refine aB ?_);refine ss (afY @GExpr.el ht) ?_)|refine nv ?_|(with_reducible (refine cS rfl ?_ ?_)<;>(intro hb hb';try(exfalso;omega)))|exact aG|exact aC)
      obtain rfl:i=x.args.length:=by omega
      exact bP ⟨0,v,_,rfl,rfl,rfl,by simp,rfl,rfl,p_ rfl⟩
 | false=>
   rw[if_neg (by simp[k3])]
   repeat' (first|((with_reducible refine ak ?_);intro K hK)|((with_reducible refine hK _ ?_);clear hK K)|(with_reducible refine aj ?_ ?_)|((with_reducible refine gi ?_);first|(refine ay ?_ ?_;rfl)|(refine aA ?_ ?_;(rfl;refine gF ?_))|((with_reducible refine gS rfl ?_ ?_)<;>(intro hb hb';try(exfalso;omega))))|((with_reducible refine aI ?_);first|refine aO (hc:=(Fv b x.text)) (h:= ?_))|((with_reducible refine aB ?_);refine ss (afY @GExpr.el k3) ?_)|refine nv ?_|(with_reducible (refine cS rfl ?_ ?_)<;>(intro hb hb';try(exfalso;omega)))|exact aG|exact aC)
   refine bF (X:=Nat×Nat) (fun q=> [.d,.k,.k,.d,.d,.v (.c false [.own 0 q.2]),.v (.c false [.raw (.int .i64 (q.1:Nat))]),.d,.d,.d,.d,.d,.d,.d,.d,.d,.d,.d,.d,.d,.d,.d,.d,.d,.d,.d,.d,.d,.d,.d,.d,.d,.d,.d,.d,.d,.d,.d,.d,.d,.d,.d,.d,.d,.d,.d,.d,.d,.d,.d,.d,.d,.d,.d,.d,.d,.d,.d,.d,.d,.d]) (fun q=> [⟨(GExpr.frees (x.args.take q.1) b (x.inner b)).map ls,9,1,q.2,true⟩]) (fun q bs=>bs) (fun q=>q.1≤x.args.length) (fun q=>x.args.length - q.1) (0,0) (by simp) ?_ ?_
   ·simp[bf,bI,aY,aZ,AV.fits,AC.fits,FB,aW,nG,GExpr.frees]
   rintro⟨i,v⟩ hi
   have hi':i≤x.args.length:=hi
   clear hi
   simp only[FB,aW]
   by_cases hlt:i<x.args.length
   ·have ht:decide ((i:Int)<(x.args.length:Int))=true:=by simp;omega
    have hw1:IntKind.i64.wrap ((i:Int)+1)=((i+1:Nat):Int):=dU (by omega)
    have hix:=dH GExpr.toD x.args hlt
    have hmem:x.args[i]∈x.args:=r_ hlt
    have hwm:=AZ hmem
    have hfl:=og x.args b (x.inner b) i
    have hft:=uQ x.args b (x.inner b) hlt
    have hil:=xI x b
    by_cases hi0:i=0
    ·have g:decide ((i:Int) > 0)=false:=by simp;omega
     cases k7:(x.kind==7)with
     | true=>
       have hfa:=GExpr.jy x.args[i] (b)
       have hbl:(b).length≤b.length+1:=by simp
       have hfree:GExpr.frees (x.args.take (i+1)) b (x.inner b)=GExpr.frees (x.args.take i) b (x.inner b)++(x.args[i]).free (b):=by rw[hft];simp[GExpr.inner,hi0]
       have hI1:=hI x.args[i] hmem (b) (by omega)
       repeat' (first|((with_reducible refine hK _ ?_);clear hK K)|(with_reducible refine aj ?_ ?_)|((with_reducible refine gi ?_);first|(refine ay ?_ ?_;rfl)|(refine aA ?_ ?_;(rfl;refine gF ?_))|((with_reducible refine gS rfl ?_ ?_)<;>(intro hb hb';try(exfalso;omega))))|((with_reducible refine gxi ?_);first|(refine aQ ?_ ?_;rfl)|(refine aS ?_ ?_;(rfl;refine gxF ?_))|((with_reducible refine gxS rfl ?_ ?_)<;>(intro hb hb';try(exfalso;omega))))|((with_reducible refine aI ?_);first|(refine dQ hI1 (cZ _) ?_ ?_))|((with_reducible refine aB ?_);refine ss (afY @GExpr.el (afY ht (afY hw1 (afY hix (afY k7 g))))) ?_)|((with_reducible refine bD ?_);refine sx (afY @GExpr.el (afY ht (afY hw1 (afY hix (afY k7 g))))) ?_)|refine nv ?_|(refine rD ?_;intro K hK)|(with_reducible (refine cS rfl ?_ ?_)<;>(intro hb hb';try(exfalso;omega)))|exact aG|exact aC)
       refine bC (i+1,v+1) ?_ ?_ ?_
       ·simp[bf,bI,aY,aZ,AV.fits,AC.fits,FB,aW,hfree]
       ·show i+1≤x.args.length;omega
       ·show x.args.length - (i+1)<x.args.length - i;omega
     | false=>
       cases k9:(x.kind==9)with
       | true=>
         have hfa:=GExpr.jy x.args[i] (b)
         have hbl:(b).length≤b.length+1:=by simp
         have hfree:GExpr.frees (x.args.take (i+1)) b (x.inner b)=GExpr.frees (x.args.take i) b (x.inner b)++(x.args[i]).free (b):=by rw[hft];simp[GExpr.inner,hi0]
         have hI1:=hI x.args[i] hmem (b) (by omega)
         repeat' (first|((with_reducible refine hK _ ?_);clear hK K)|(with_reducible refine aj ?_ ?_)|((with_reducible refine gi ?_);first|(refine ay ?_ ?_;rfl)|(refine aA ?_ ?_;(rfl;refine gF ?_))|((with_reducible refine gS rfl ?_ ?_)<;>(intro hb hb';try(exfalso;omega))))|((with_reducible refine gxi ?_);first|(refine aQ ?_ ?_;rfl)|(refine aS ?_ ?_;(rfl;refine gxF ?_))|((with_reducible refine gxS rfl ?_ ?_)<;>(intro hb hb';try(exfalso;omega))))|((with_reducible refine aI ?_);first|(refine dQ hI1 (cZ _) ?_ ?_))|((with_reducible refine aB ?_);refine ss (afY @GExpr.el (afY ht (afY hw1 (afY hix (afY k7 (afY k9 g)))))) ?_)|((with_reducible refine bD ?_);refine sx (afY @GExpr.el (afY ht (afY hw1 (afY hix (afY k7 (afY k9 g)))))) ?_)|refine nv ?_|(refine rD ?_;intro K hK)|(with_reducible (refine cS rfl ?_ ?_)<;>(intro hb hb';try(exfalso;omega)))|exact aG|exact aC)
         refine bC (i+1,v+1) ?_ ?_ ?_
         ·simp[bf,bI,aY,aZ,AV.fits,AC.fits,FB,aW,hfree]
         ·show i+1≤x.args.length;omega
         ·show x.args.length - (i+1)<x.args.length - i;omega
       | false=>
         have hfa:=GExpr.jy x.args[i] (b)
         have hbl:(b).length≤b.length+1:=by simp
         have hfree:GExpr.frees (x.args.take (i+1)) b (x.inner b)=GExpr.frees (x.args.take i) b (x.inner b)++(x.args[i]).free (b):=by rw[hft];simp[GExpr.inner,hi0]
         have hI1:=hI x.args[i] hmem (b) (by omega)
         repeat' (first|((with_reducible refine hK _ ?_);clear hK K)|(with_reducible refine aj ?_ ?_)|((with_reducible refine gi ?_);first|(refine ay ?_ ?_;rfl)|(refine aA ?_ ?_;(rfl;refine gF ?_))|((with_reducible refine gS rfl ?_ ?_)<;>(intro hb hb';try(exfalso;omega))))|((with_reducible refine gxi ?_);first|(refine aQ ?_ ?_;rfl)|(refine aS ?_ ?_;(rfl;refine gxF ?_))|((with_reducible refine gxS rfl ?_ ?_)<;>(intro hb hb';try(exfalso;omega))))|((with_reducible refine aI ?_);first|(refine dQ hI1 (cZ _) ?_ ?_))|((with_reducible refine aB ?_);refine ss (afY @GExpr.el (afY ht (afY hw1 (afY hix (afY k7 k9))))) ?_)|((with_reducible refine bD ?_);refine sx (afY @GExpr.el (afY ht (afY hw1 (afY hix (afY k7 k9))))) ?_)|refine nv ?_|(refine rD ?_;intro K hK)|(with_reducible (refine cS rfl ?_ ?_)<;>(intro hb hb';try(exfalso;omega)))|exact aG|exact aC)
         refine bC (i+1,v+1) ?_ ?_ ?_
         ·simp[bf,bI,aY,aZ,AV.fits,AC.fits,FB,aW,hfree]
         ·show i+1≤x.args.length;omega
         ·show x.args.length - (i+1)<x.args.length - i;omega
    ·have g:decide ((i:Int) > 0)=true:=by simp;omega
     cases k7:(x.kind==7)with
     | true=>
       have hfa:=GExpr.jy x.args[i] (b++ [x.text])
       have hbl:(b++ [x.text]).length≤b.length+1:=by simp
       have hfree:GExpr.frees (x.args.take (i+1)) b (x.inner b)=GExpr.frees (x.args.take i) b (x.inner b)++(x.args[i]).free (b++ [x.text]):=by rw[hft];simp[GExpr.inner,hi0,k7]
       have hI1:=hI x.args[i] hmem (b++ [x.text]) (by omega)
       simp only[o_,f_,h_]at hI1
       repeat' (first|((with_reducible refine hK _ ?_);clear hK K)|(with_reducible refine aj ?_ ?_)|((with_reducible refine gi ?_);first|(refine ay ?_ ?_;rfl)|(refine aA ?_ ?_;(rfl;refine gF ?_))|((with_reducible refine gS rfl ?_ ?_)<;>(intro hb hb';try(exfalso;omega))))|((with_reducible refine gxi ?_);first|(refine aQ ?_ ?_;rfl)|(refine aS ?_ ?_;(rfl;refine gxF ?_))|((with_reducible refine gxS rfl ?_ ?_)<;>(intro hb hb';try(exfalso;omega))))|((with_reducible refine aI ?_);first|(refine dQ hI1 (cZ _) ?_ ?_))|((with_reducible refine aB ?_);refine ss (afY @GExpr.el (afY ht (afY hw1 (afY hix (afY k7 g))))) ?_)|((with_reducible refine bD ?_);refine sx (afY @GExpr.el (afY ht (afY hw1 (afY hix (afY k7 g))))) ?_)|refine nv ?_|(refine rD ?_;intro K hK)|(with_reducible (refine cS rfl ?_ ?_)<;>(intro hb hb';try(exfalso;omega)))|exact aG|exact aC)
       refine bC (i+1,v+1) ?_ ?_ ?_
       ·simp[bf,bI,aY,aZ,AV.fits,AC.fits,FB,aW,hfree]
       ·show i+1≤x.args.length;omega
       ·show x.args.length - (i+1)<x.args.length - i;omega
     | false=>
       cases k9:(x.kind==9)with
       | true=>
         have hfa:=GExpr.jy x.args[i] (b++ [x.text])
         have hbl:(b++ [x.text]).length≤b.length+1:=by simp
         have hfree:GExpr.frees (x.args.take (i+1)) b (x.inner b)=GExpr.frees (x.args.take i) b (x.inner b)++(x.args[i]).free (b++ [x.text]):=by rw[hft];simp[GExpr.inner,hi0,k7,k9]
         have hI1:=hI x.args[i] hmem (b++ [x.text]) (by omega)
         simp only[o_,f_,h_]at hI1
         repeat' (first|((with_reducible refine hK _ ?_);clear hK K)|(with_reducible refine aj ?_ ?_)|((with_reducible refine gi ?_);first|(refine ay ?_ ?_;rfl)|(refine aA ?_ ?_;(rfl;refine gF ?_))|((with_reducible refine gS rfl ?_ ?_)<;>(intro hb hb';try(exfalso;omega))))|((with_reducible refine gxi ?_);first|(refine aQ ?_ ?_;rfl)|(refine aS ?_ ?_;(rfl;refine gxF ?_))|((with_reducible refine gxS rfl ?_ ?_)<;>(intro hb hb';try(exfalso;omega))))|((with_reducible refine aI ?_);first|(refine dQ hI1 (cZ _) ?_ ?_))|((with_reducible refine aB ?_);refine ss (afY @GExpr.el (afY ht (afY hw1 (afY hix (afY k7 (afY k9 g)))))) ?_)|((with_reducible refine bD ?_);refine sx (afY @GExpr.el (afY ht (afY hw1 (afY hix (afY k7 (afY k9 g)))))) ?_)|refine nv ?_|(refine rD ?_;intro K hK)|(with_reducible (refine cS rfl ?_ ?_)<;>(intro hb hb';try(exfalso;omega)))|exact aG|exact aC)
         refine bC (i+1,v+1) ?_ ?_ ?_
         ·simp[bf,bI,aY,aZ,AV.fits,AC.fits,FB,aW,hfree]
         ·show i+1≤x.args.length;omega
         ·show x.args.length - (i+1)<x.args.length - i;omega
       | false=>
         have hfa:=GExpr.jy x.args[i] (b)
         have hbl:(b).length≤b.length+1:=by simp
         have hfree:GExpr.frees (x.args.take (i+1)) b (x.inner b)=GExpr.frees (x.args.take i) b (x.inner b)++(x.args[i]).free (b):=by rw[hft];simp[GExpr.inner,hi0,k7,k9]
         have hI1:=hI x.args[i] hmem (b) (by omega)
         repeat' (first|((with_reducible refine hK _ ?_);clear hK K)|(with_reducible refine aj ?_ ?_)|((with_reducible refine gi ?_);first|(refine ay ?_ ?_;rfl)|(refine aA ?_ ?_;(rfl;refine gF ?_))|((with_reducible refine gS rfl ?_ ?_)<;>(intro hb hb';try(exfalso;omega))))|((with_reducible refine gxi ?_);first|(refine aQ ?_ ?_;rfl)|(refine aS ?_ ?_;(rfl;refine gxF ?_))|((with_reducible refine gxS rfl ?_ ?_)<;>(intro hb hb';try(exfalso;omega))))|((with_reducible refine aI ?_);first|(refine dQ hI1 (cZ _) ?_ ?_))|((with_reducible refine aB ?_);refine ss (afY @GExpr.el (afY ht (afY hw1 (afY hix (afY k7 k9))))) ?_)|((with_reducible refine bD ?_);refine sx (afY @GExpr.el (afY ht (afY hw1 (afY hix (afY k7 k9))))) ?_)|refine nv ?_|(refine rD ?_;intro K hK)|(with_reducible (refine cS rfl ?_ ?_)<;>(intro hb hb';try(exfalso;omega)))|exact aG|exact aC)
         refine bC (i+1,v+1) ?_ ?_ ?_
         ·simp[bf,bI,aY,aZ,AV.fits,AC.fits,FB,aW,hfree]
         ·show i+1≤x.args.length;omega
         ·show x.args.length - (i+1)<x.args.length - i;omega
   ·have ht:decide ((i:Int)<(x.args.length:Int))=false:=by simp;omega
    repeat' (first|((with_reducible refine ak ?_);intro K hK)|((with_reducible refine hK _ ?_);clear hK K)|(with_reducible refine aj ?_ ?_)|((with_reducible refine gi ?_);first|(refine ay ?_ ?_;rfl)|(refine aA ?_ ?_;(rfl;refine gF ?_))|((with_reducible refine gS rfl ?_ ?_)<;>(intro hb hb';try(exfalso;omega))))|((with_reducible refine aB ?_);refine ss (afY @GExpr.el ht) ?_)|refine nv ?_|(with_reducible (refine cS rfl ?_ ?_)<;>(intro hb hb';try(exfalso;omega)))|exact aG|exact aC)
    obtain rfl:i=x.args.length:=by omega
    exact bP ⟨0,v,_,rfl,rfl,rfl,by simp,rfl,rfl,p_ rfl⟩
theorem Oy :∀(n:Nat) (x:GExpr),x.toD.wt<n→AP x:=by
 intro n
 induction n with
 |zero=>intro x h;omega
 | succ n ih=>
   intro x h
   exact RP x (fun y hy=>ih y (by have:=AZ hy;omega))
theorem Ox(x:GExpr):AP x:=Oy _ x (A_ _)
theorem vF.own{l:List ByteArray}{w w':World}{en:Ending}(h:vF l w en w'):sV false (l.map ls) 9 1 w en w':=by
 obtain⟨f,v,rfl,⟨cs,h1,h2,h3,h4⟩,h5⟩:=h
 exact⟨v,cs,f,rfl,cu.of h1,h2,fun b hb=>⟨fun e=>h4 b e.symm hb,(h3.2 b hb).1⟩,h5⟩
theorem GExpr.Gu(x:GExpr)(b:List ByteArray):(x.free b).length≤max 1 x.toD.wt:=by
 rw[GExpr.free_eq]
 split
 ·simp;omega
 ·have:=GExpr.uy x.args b (x.inner b)
  have:=x.Xc
  omega
theorem rP(l:List ByteArray)(hn:l.length≤1048576):eH Tryz.prog 68 [.sl (l.map ls)] ((nT l).map ls) 9 1:=fun w vs hr _=>by
 obtain⟨v,rfl,h1⟩:=NR hr
 obtain⟨fp,hS⟩:=zI h1
 exact(yG l fp v w hS hn).mono fun _ _ h=>h.own
theorem rQ(l:List ByteArray)(hn:l.length≤1048576):eH Tryz.prog 67 [.sl (l.map ls)] ((nT l).map ls) 9 1:=fun w vs hr _=>by
 obtain⟨v,rfl,h1⟩:=NR hr
 obtain⟨fp,hS⟩:=zI h1
 exact(yH l fp v w hS hn).mono fun _ _ h=>h.own
def Ag :IC:=(zd_ [zz_ 1 (.box (.t 0)),zz_ 2 (.mov (.k (.slice none 0 0)))] (zd_ [zr_ 3 4 1,zz_ 4 (.brow false 9 1 0 false []),zp_ 5 97 3 4,zq_ 6 68 5,zw_ 2 6] .ret))
theorem DU :aF Tryz.prog (Tryz.f69.body.getD .skip)=some Ag:=by kernel_rfl
theorem sG(x:GExpr)(hw:x.toD.wt≤1048576):eH Tryz.prog 69 [x.toD] ((nT (x.free [])).map ls) 9 1:=by
 refine iM (fn:=Tryz.f69) (t:=2) (by kernel_rfl) (by kernel_rfl) (by kernel_rfl) DU ?_
 change AWP _ _ _ (st0 7 _)
 have hm:=x.Gu []
 unfold Ag;refine zb_ ?_
 refine sS (afY @GExpr.bg (afY @GExpr.aU (afY @GExpr.bG (afY @GPart.bg (afY @GPart.aU @GPart.bG))))) ?_
 repeat' (first|((with_reducible refine hK _ ?_);clear hK K)|(with_reducible refine aj ?_ ?_)|((with_reducible refine gi ?_);first|(refine ay ?_ ?_;rfl)|(refine aA ?_ ?_;(rfl;refine gF ?_))|((with_reducible refine gS rfl ?_ ?_)<;>(intro hb hb';try(exfalso;omega))))|((with_reducible refine gxi ?_);first|(refine aQ ?_ ?_;rfl)|(refine aS ?_ ?_;(rfl;refine gxF ?_))|((with_reducible refine gxS rfl ?_ ?_)<;>(intro hb hb';try(exfalso;omega))))|((with_reducible refine aI ?_);first|(refine dQ (Ox x [] (by simp;omega)) (cZ _) ?_ ?_)|(refine dQ (rP (x.free []) (by omega)) (cZ _) ?_ ?_))|((with_reducible refine aB ?_);refine ss (afY @GExpr.el @GPart.el) ?_)|((with_reducible refine bD ?_);refine sx (afY @GExpr.el @GPart.el) ?_)|refine nv ?_|(refine rD ?_;intro K hK)|(with_reducible (refine cS rfl ?_ ?_)<;>(intro hb hb';try(exfalso;omega)))|exact aG|exact aC)
 exact bP ⟨1,0,_,rfl,rfl,rfl,rfl,rfl,rfl,p_ rfl⟩
def bn(x:GPart):List ByteArray:=if x.kind==2 then nT (x.expr.free [])else []
theorem tK(x:GPart)(hw:x.expr.toD.wt≤1048576):(bn x).length≤1048576:=by
 unfold bn
 split
 ·have:=Bg (x.expr.free [])
  have:=x.expr.Gu []
  omega
 ·simp
def zX :IC:=(zd_ [zz_ 1 (.box (.t 0)),zz_ 2 (.mov (.k (.slice none 0 0)))] (.seq (zd_ [zt_ 3 0 1,zs_ 4 1 3,zm_ 5 .neq 4 2] (.cond (.t 5) (zd_ [zz_ 6 (.brow true 9 1 0 false []),zw_ 2 6] .ret) .skip)) (zd_ [zt_ 7 2 1,zr_ 8 4 7,zq_ 9 69 8,zw_ 2 9] .ret)))
theorem DI :aF Tryz.prog (Tryz.f35.body.getD .skip)=some zX:=by kernel_rfl
theorem kS(x:GPart)(hw:x.expr.toD.wt≤1048576):eH Tryz.prog 35 [x.toD] ((bn x).map ls) 9 1:=by
 refine iM (fn:=Tryz.f35) (t:=2) (by kernel_rfl) (by kernel_rfl) (by kernel_rfl) DI ?_
 change AWP _ _ _ (st0 10 _)
 unfold zX;refine zb_ ?_
 refine sS (afY @GExpr.bg (afY @GExpr.aU (afY @GExpr.bG (afY @GPart.bg (afY @GPart.aU @GPart.bG))))) ?_
 cases k:(x.kind==2)with
 | true=>
   have kn:(x.kind !=2)=false:=by simp only[bne,k];rfl
   have hU:bn x=nT (x.expr.free []):=by simp[bn,k]
   rw[hU]
   repeat' (first|((with_reducible refine hK _ ?_);clear hK K)|(with_reducible refine aj ?_ ?_)|((with_reducible refine gi ?_);first|(refine ay ?_ ?_;rfl)|(refine aA ?_ ?_;(rfl;refine gF ?_))|((with_reducible refine gS rfl ?_ ?_)<;>(intro hb hb';try(exfalso;omega))))|((with_reducible refine gxi ?_);first|(refine aQ ?_ ?_;rfl)|(refine aS ?_ ?_;(rfl;refine gxF ?_))|((with_reducible refine gxS rfl ?_ ?_)<;>(intro hb hb';try(exfalso;omega))))|((with_reducible refine aI ?_);first|(refine dQ (sG x.expr hw) (cZ _) ?_ ?_))|((with_reducible refine aB ?_);refine ss (afY @GExpr.el (afY @GPart.el (afY k kn))) ?_)|((with_reducible refine bD ?_);refine sx (afY @GExpr.el (afY @GPart.el (afY k kn))) ?_)|refine nv ?_|(refine rD ?_;intro K hK)|(with_reducible (refine cS rfl ?_ ?_)<;>(intro hb hb';try(exfalso;omega)))|exact aG|exact aC)
   exact bP ⟨0,0,_,rfl,rfl,rfl,rfl,rfl,rfl,p_ rfl⟩
 | false=>
   have kn:(x.kind !=2)=true:=by simp only[bne,k];rfl
   have hU:bn x= []:=by simp[bn,k]
   rw[hU]
   repeat' (first|((with_reducible refine hK _ ?_);clear hK K)|(with_reducible refine aj ?_ ?_)|((with_reducible refine gi ?_);first|(refine ay ?_ ?_;rfl)|(refine aA ?_ ?_;(rfl;refine gF ?_))|((with_reducible refine gS rfl ?_ ?_)<;>(intro hb hb';try(exfalso;omega))))|((with_reducible refine gxi ?_);first|(refine aQ ?_ ?_;rfl)|(refine aS ?_ ?_;(rfl;refine gxF ?_))|((with_reducible refine gxS rfl ?_ ?_)<;>(intro hb hb';try(exfalso;omega))))|((with_reducible refine aI ?_);first|(refine dQ (sG x.expr hw) (cZ _) ?_ ?_))|((with_reducible refine aB ?_);refine ss (afY @GExpr.el (afY @GPart.el (afY k kn))) ?_)|((with_reducible refine bD ?_);refine sx (afY @GExpr.el (afY @GPart.el (afY k kn))) ?_)|refine nv ?_|(refine rD ?_;intro K hK)|(with_reducible (refine cS rfl ?_ ?_)<;>(intro hb hb';try(exfalso;omega)))|exact aG|exact aC)
   exact bP ⟨0,0,_,rfl,rfl,rfl,rfl,rfl,rfl,p_ rfl⟩
theorem zV :∀(l:List ByteArray) (s:ByteArray) (k:Nat),(decide (iy l s k<0))= !mV l s
 | [],s,k=>by simp[iy,mV]
 | x::l,s,k=>by
   rw[iy,mV]
   by_cases h:x=s
   ·rw[if_pos h];simp[h]
   ·rw[if_neg h,zV l s (k+1)];simp[h]
theorem aaE(l:List ByteArray)(s:ByteArray):decide (vT l s<0)= !mV l s:=zV l s 0
theorem yU(l:List ByteArray)(s:ByteArray):aV Tryz.prog 95 [.sl (l.map ls),ls s] (.c false [.raw (.int .i64 (vT l s))]):=D5 fun w vs hr=>by
 obtain⟨v,u,rfl,h1,h2⟩:=XF hr
 obtain⟨fp,hS⟩:=zI h1
 obtain rfl:=rV h2
 exact zU l s fp v w hS
def V5 :IC:=(.reg false [zs_ 5 1 2,zw_ 6 0,zz_ 7 (.brow false 9 1 1 false [(.t 6)]),zz_ 8 (.app 9 1 (.t 5) (.t 7)),⟨none,none,.store 1 (.t 2) (.t 8)⟩])
theorem TB :aF Tryz.prog (Tryz.f107.body.getD .skip)=some V5:=by kernel_rfl
abbrev YV :AV:= .c false [.raw (.tuple #[])]
abbrev nS(l:List ByteArray)(v:Nat):Own:=⟨l.map ls,9,1,v,true⟩
theorem MJ(pb:List AC)(hpb:∀n m,pb.all (AC.fits n m)=true)(l:List ByteArray)(s:ByteArray)(bv:AV)(ver:Nat)(ox:List Own)(bx:List (List AC))(hl:l.length≤4000000)(hb:iQ (ox.length+1) (bx.length+2) bx):
 iE Tryz.prog 107 [.c false [.raw (.string s)],bv,.bptr 1 0] (nS l ver::ox) (pb::[.own 0 ver]::bx) YV (nS (l++ [s]) (ver+1)::ox) (pb::[.own 0 (ver+1)]::bx):=by
 refine En (fn:=Tryz.f107) (rs:= []) (by kernel_rfl) (by kernel_rfl) (by kernel_rfl) TB (by simp) (by simp) ?_
 unfold V5;refine zb_ ?_
 change dN _ _ _ _ (stS 9 _ _ _)
 simp only[undef,stS,st0,stN,D.av,D.avN,dX,dh,dZ,dY,fC,dP,dK,dJ,GExpr.bg,GExpr.aU,GExpr.bG,GExpr.el,GPart.bg,GPart.aU,GPart.bG,GPart.el,f_,h_,k_,g_,i_,d_,e_,l_,m_]
 repeat' (first|((with_reducible refine hK _ ?_);clear hK K)|(with_reducible refine aj ?_ ?_)|((with_reducible refine gi ?_);first|(refine ay ?_ ?_;rfl)|(refine aA ?_ ?_;(rfl;refine gF ?_))|((with_reducible refine gS rfl ?_ ?_)<;>(intro hb hb';try(exfalso;omega))))|((with_reducible refine gxi ?_);first|(refine aQ ?_ ?_;rfl)|(refine aS ?_ ?_;(rfl;refine gxF ?_))|((with_reducible refine gxS rfl ?_ ?_)<;>(intro hb hb';try(exfalso;omega))))|((with_reducible refine aB ?_);refine ss (afY @GExpr.el (afY @GPart.el (afY @gK (afY @gu (afY @iw (afY @gq (afY @b_.{0} (afY @c_ @a_.{0})))))))) ?_)|((with_reducible refine bD ?_);refine sx (afY @GExpr.el (afY @GPart.el (afY @gK (afY @gu (afY @iw (afY @gq (afY @b_.{0} (afY @c_ @a_.{0})))))))) ?_)|refine nv ?_|(refine rD ?_;intro K hK)|(with_reducible (refine cS rfl ?_ ?_)<;>(intro hb hb';try(exfalso;omega)))|exact aG|exact aC)
 refine⟨?_, ?_, ?_,rfl⟩
 ·simp[aY,gB,nS,ls]
 ·exact⟨rfl,rfl,mX bx⟩
 ·simp only[iQ]at hb
  simp only[n_,hpb,Bool.true_and]
  simp[AC.fits,hb]
def OW :IC:=(zd_ [zz_ 4 (.box (.t 1))] (.seq (zd_ [zt_ 10 0 4,zs_ 11 1 10,zm_ 12 .eql 11 3,zw_ 13 12,zv_ 14 13 2,zy_ 15 13 (.fad 2 (.t 4)),zy_ 16 13 (.load 1 false (.t 15)),zy_ 17 13 (.call 95 [(.t 14),(.t 16)]),zy_ 18 13 (.bin .lss (.t 17) (.k (.int .i64 0))),zh_ 19 13 18 false] (.cond (.t 19) (zd_ [zw_ 20 0,zi_ 21 20,zt_ 22 0 21,zs_ 23 1 22,zz_ 24 (.fnil true (.t 23))] (.cond (.t 24) (.seq (.reg true [zw_ 25 0,zi_ 26 25,zt_ 27 0 26,zs_ 28 1 27,zt_ 29 2 4,zs_ 30 1 29,zw_ 31 2,zz_ 32 (.callv (.t 28) [(.t 30),(.t 31)])]) .ret) .skip)) .skip)) (zd_ [zt_ 33 0 4,zs_ 34 1 33,zm_ 35 .eql 34 7,zw_ 36 35,zx_ 37 36 (.fad 0 (.t 4)),zx_ 38 36 (.load 1 false (.t 37)),zx_ 39 36 (.bin .eql (.t 38) (.k (.int .i64 9))),zg_ 40 36 true 39,zw_ 6 40] (.seq (zd_ [zw_ 41 6,zw_ 42 41,zv_ 43 42 0,zy_ 44 42 (.nck (.t 43)),zy_ 45 42 (.fad 1 (.t 44)),zy_ 46 42 (.load 1 false (.t 45)),zy_ 47 42 (.fnil true (.t 46)),zh_ 48 42 47 false] (.cond (.t 48) (.reg true [zw_ 49 0,zi_ 50 49,zt_ 51 1 50,zs_ 52 1 51,zt_ 53 2 4,zs_ 54 1 53,zz_ 55 (.callv (.t 52) [(.t 54)])]) .skip)) (zd_ [zt_ 56 3 4,zs_ 57 1 56,zf_ 58 false 57,zk_ 59 0] (.block 0 (.loop (zd_ [zl_ 60 .lss 59 58] (.seq (.cond (.t 60) .skip (.exit 0)) (.seq (.block 1 (zd_ [zw_ 61 59,ze_ 62 4 57 59,zr_ 63 4 62,zz_ 8 (.alloc [(.int .i64 0),(.int .i64 0),(.string ⟨#[]⟩),(.slice none 0 0)]),zw_ 7 61,⟨none,none,.store 4 (.t 8) (.t 63)⟩] (zd_ [zw_ 64 2,zw_ 9 64] (.seq (zd_ [zw_ 65 6,zw_ 66 65,zv_ 67 66 7,zy_ 68 66 (.bin .gtr (.t 67) (.k (.int .i64 0))),zh_ 69 66 68 false] (.cond (.t 69) (.reg true [zz_ 70 (.brow true 9 1 0 false []),zw_ 71 2,zz_ 72 (.app 9 1 (.t 70) (.t 71)),zt_ 73 2 4,zs_ 74 1 73,zz_ 75 (.brow false 9 1 1 false [(.t 74)]),zz_ 76 (.app 9 1 (.t 72) (.t 75)),zw_ 9 76]) .skip)) (.reg false [zw_ 77 0,zr_ 78 4 8,zw_ 79 9,zo_ 80 108 77 78 79]))))) (.reg false [zm_ 81 .add 59 1,zw_ 59 81])))))))))))
theorem OV :aF Tryz.prog (Tryz.f108.body.getD .skip)=some OW:=by kernel_rfl
def BV(ox:List Own)(b:List ByteArray)(bv:AV):Prop:=(∃nb,bv= .c false [.sl nb (b.map ls)])∨∃k i o,bv= .c false [.own (k+1) i]∧ox[k]? =some o∧o.ver=i∧o.l=b.map ls
abbrev Ua(pb:List AC)(v:Nat)(bx:List (List AC)):List (List AC):=pb::[.own 0 v]::[.cl 107 [1],.raw .nilFunc]::bx
def J9(pb:List AC)(x:GExpr):Prop:=∀(b l:List ByteArray) (bv:AV) (ver:Nat) (ox:List Own) (bx:List (List AC)),BV ox b bv→l.length+x.toD.wt≤2000000→b.length+x.toD.wt≤2000000→iQ (ox.length+1) (bx.length+3) bx→
 iE Tryz.prog 108 [.bptr 2 0,x.toD.av,bv] (nS l ver::ox) (Ua pb ver bx) YV (nS (l++x.free b) (ver+(x.free b).length)::ox) (Ua pb (ver+(x.free b).length) bx)
theorem ael{ox:List Own}{b:List ByteArray}{nb:Bool}:BV ox b (.c false [.sl nb (b.map ls)]):=p_ ⟨_,rfl⟩
theorem ae8{ox:List Own}{b:List ByteArray}{k i:Nat}{o:Own}(h:ox[k]? =some o)(h1:o.ver=i)(h2:o.l=b.map ls):BV ox b (.c false [.own (k+1) i]):=Or.inr ⟨k,i,o,rfl,h,h1,h2⟩
theorem WV{ox:List Own}{b:List ByteArray}{i:Nat}{o:Own}(h1:o.ver=i)(h2:o.l=b.map ls):BV (ox++ [o]) b (.c false [.own (ox.length+1) i]):=Or.inr ⟨ox.length,i,o,rfl,by simp,h1,h2⟩
theorem ql :∀(l:List D) (i:Nat) (h:i<l.length),D.wts (l.take i)+(l[i]).wt≤D.wts l
 |d::l,0,h=>by simp[D.wts]
 | d::l,i+1,h=>by
   have:=ql l i (by simpa using h)
   simp only[x_,D.wts,List.getElem_cons_succ]
   omega
theorem Gt(x:GExpr)(b:List ByteArray){q:Nat}(h:q<x.args.length):(GExpr.frees (x.args.take q) b (x.inner b)).length+x.args[q].toD.wt≤x.toD.wt:=by
 have h1:=GExpr.uy (x.args.take q) b (x.inner b)
 have h2:=ql (x.args.map GExpr.toD) q (by simpa using h)
 have h3:=x.Xc
 rw[← w_,u_]at h2
 have h4:(x.args.take q).length≤x.args.length:=by rw[q_];omega
 omega
theorem iP{n m:Nat}{bx cx:List (List AC)}(h:iQ n m bx)(h2:iQ n m cx):iQ n m (bx++cx):=by
 simp only[iQ,List.all_append,Bool.and_eq_true]at h h2⊢
 exact⟨h,h2⟩
theorem adh{pb:List AC}(hpb:∀n m,pb.all (AC.fits n m)=true){n m m' v:Nat}{bx cx:List (List AC)}(h:iQ n m' bx)(hn:0<n)(hm:m'≤m)(hm0:1<m')(hc:iQ n m cx):iQ n m (Ua pb v (bx++cx)):=
 iP (bx:= [_,_,_]) (by simp only[iQ,n_,hpb];simp[AC.fits];exact⟨hn,Nat.lt_of_lt_of_le hm0 hm⟩) (iP (h.mono (E_ _) hm) hc)
theorem YP(pb:List AC)(hpb:∀n m,pb.all (AC.fits n m)=true)(x:GExpr)(hI:∀y∈x.args,J9 pb y):J9 pb x:=by
 intro b l bv ver ox bx hbv hwl hwb hfit
 have hwe:=x.Xc
 refine En (fn:=Tryz.f108) (rs:= []) (by kernel_rfl) (by kernel_rfl) (by kernel_rfl) OV (by simp) (by simp) ?_
 unfold OW;refine zb_ ?_
 change dN _ _ _ _ (stS 82 _ _ _)
 have hneg:=aaE b x.text
 have hfree0:=x.free_eq b
 rcases hbv with⟨nb,rfl⟩|⟨k,i,o,rfl,hk,hki,hkl⟩
 ·simp only[undef,stS,st0,stN,D.av,D.avN,dX,dh,dZ,dY,fC,dP,dK,dJ,GExpr.bg,GExpr.aU,GExpr.bG,GExpr.el,GPart.bg,GPart.aU,GPart.bG,GPart.el,f_,h_,k_,g_,i_,d_,e_,l_,m_]
  repeat' (first|((with_reducible refine hK _ ?_);clear hK K)|(with_reducible refine aj ?_ ?_)|((with_reducible refine gi ?_);first|(refine ay ?_ ?_;rfl)|(refine aA ?_ ?_;(rfl;refine gF ?_))|((with_reducible refine gS rfl ?_ ?_)<;>(intro hb hb';try(exfalso;omega))))|((with_reducible refine gxi ?_);first|(refine aQ ?_ ?_;rfl)|(refine aS ?_ ?_;(rfl;refine gxF ?_))|((with_reducible refine gxS rfl ?_ ?_)<;>(intro hb hb';try(exfalso;omega))))|((with_reducible refine aI ?_);first|(refine eX (yU b x.text) trivial ?_ ?_))|((with_reducible refine fV ?_);first|(refine dM (yU b x.text) trivial ?_ ?_))|((with_reducible refine Qs ?_);first|(refine callV ?_ (MJ pb hpb l x.text _ ver ox _ ?_ ?_) ?_))|((with_reducible refine GN ?_);first|(refine G5 ?_ (MJ pb hpb l x.text _ ver ox _ ?_ ?_) ?_))|((with_reducible refine aB ?_);refine ss (afY @GExpr.el (afY @GPart.el (afY @gK (afY @gu (afY @iw (afY @gq (afY @b_.{0} (afY @c_ (afY @a_.{0} hneg))))))))) ?_)|((with_reducible refine bD ?_);refine sx (afY @GExpr.el (afY @GPart.el (afY @gK (afY @gu (afY @iw (afY @gq (afY @b_.{0} (afY @c_ (afY @a_.{0} hneg))))))))) ?_)|refine nv ?_|(refine rD ?_;intro K hK)|(with_reducible (refine cS rfl ?_ ?_)<;>(intro hb hb';try(exfalso;omega)))|exact aG|exact aC)
  ·with_reducible refine MK ?_
   refine iP (bx:= [_]) (by simp[iQ,AC.fits]) (iP (hfit.mono (by omega) (by simp)) (by simp[iQ,AC.fits]))
  ·have hfr:x.free b= [x.text]:=by rw[hfree0];simp[*]
   rw[hfr]
   refine bP ⟨⟨⟨rfl,rfl,rfl,rfl,rfl⟩,gB _⟩,⟨rfl,rfl,rfl,xW _ _⟩, ?_,rfl⟩
   refine iP (bx:= [_,_,_]) (by simp only[iQ,n_,hpb];simp[AC.fits]) (hfit.mono (by simp) (by simp))
  all_goals
   (have hfr:x.free b=GExpr.frees x.args b (x.inner b):=by rw[hfree0];simp[*]
    rw[hfr]
    refine iV (X:=Nat) (fun q=> [.k,.d,.k,.d,.k,.d,.k,.d,.d,.d,.d,.d,.d,.d,.d,.d,.d,.d,.d,.d,.d,.d,.d,.d,.d,.d,.d,.d,.d,.d,.d,.d,.d,.d,.d,.d,.d,.d,.d,.d,.d,.d,.d,.d,.d,.d,.d,.d,.d,.d,.d,.d,.d,.d,.d,.d,.d,.k,.k,.v (.c false [.raw (.int .i64 (q:Nat))]),.d,.d,.d,.d,.d,.d,.d,.d,.d,.d,.d,.d,.d,.d,.d,.d,.d,.d,.d,.d,.d,.d]) (fun q=>nS (l++GExpr.frees (x.args.take q) b (x.inner b)) (ver+(GExpr.frees (x.args.take q) b (x.inner b)).length)::ox)
     (fun q bs=>Ua pb (ver+(GExpr.frees (x.args.take q) b (x.inner b)).length) (bx++ [[AC.raw (Value.int v_ x.kind),AC.raw (Value.int v_ x.n),AC.raw (Value.string x.text),AC.sl false (H_ GExpr.toD x.args)]])) (fun q=>q≤x.args.length) (fun q=>x.args.length - q) 0 (F_ _) (by intro q;simp) ?_ ?_
    ·refine⟨?_, ?_, ?_, ?_⟩
     ·simp[bI,AV.fits,AC.fits,FB,aW]
     ·simp[FB,aY,gB,nG,nS]
     ·simp[FB,aZ,mX,nG]
     ·exact adh hpb (m':=bx.length+3) hfit (by simp[FB]) (by simp[FB]) (by simp) (by simp[iQ,AC.fits,FB])
    intro q hq
    have hq':q≤x.args.length:=hq
    clear hq
    simp only[FB,aW]
    by_cases hlt:q<x.args.length
    ·have hmem:=r_ hlt
     have hV:=hI x.args[q] hmem
     have hwm:=AZ hmem
     have hft:=uQ x.args b (x.inner b) hlt
     have hfl:=og x.args b (x.inner b) q
     have hil:=xI x b
     have hroom:=Gt x b hlt
     simp only[J9,D.av,GExpr.bG,GExpr.bg]at hV
     repeat' (first|((with_reducible refine hK _ ?_);clear hK K)|(with_reducible refine aj ?_ ?_)|((with_reducible refine gi ?_);first|(refine ay ?_ ?_;rfl)|(refine aA ?_ ?_;(rfl;refine gF ?_))|((with_reducible refine gS rfl ?_ ?_)<;>(intro hb hb';try(exfalso;omega))))|((with_reducible refine gxi ?_);first|(refine aQ ?_ ?_;rfl)|(refine aS ?_ ?_;(rfl;refine gxF ?_))|((with_reducible refine gxS rfl ?_ ?_)<;>(intro hb hb';try(exfalso;omega))))|((with_reducible refine aI ?_);first|(refine callS (hV b _ _ _ _ _ ael ?_ ?_ ?_) ?_)|(refine callS (hV (b++ [x.text]) _ _ _ _ _ (WV rfl (by simp[ls])) ?_ ?_ ?_) ?_))|((with_reducible refine aB ?_);refine ss (afY @GExpr.el (afY @GPart.el (afY @gK (afY @gu (afY @iw (afY @gq (afY @b_.{0} (afY @c_ @a_.{0})))))))) ?_)|((with_reducible refine bD ?_);refine sx (afY @GExpr.el (afY @GPart.el (afY @gK (afY @gu (afY @iw (afY @gq (afY @b_.{0} (afY @c_ @a_.{0})))))))) ?_)|refine nv ?_|(refine rD ?_;intro K hK)|(with_reducible (refine cS rfl ?_ ?_)<;>(intro hb hb';try(exfalso;omega)))|exact aG|exact aC)
     all_goals first
      |(simp only[a_,d_,e_];omega)
      | (with_reducible refine MK ?_
         first
          |exact iP (hfit.mono (by simp) (by simp)) (by simp[iQ,AC.fits])
          |exact iP (hfit.mono (by simp;omega) (by simp;omega)) (by simp[iQ,AC.fits]))
      | (first
       |(have hfree:GExpr.frees (x.args.take (q+1)) b (x.inner b)=GExpr.frees (x.args.take q) b (x.inner b)++(x.args[q]).free b:=by
           rw[hft];by_cases h0:q=0<;>first|(exfalso;omega)|(simp[h0,GExpr.inner, *];done))
       |(have hfree:GExpr.frees (x.args.take (q+1)) b (x.inner b)=GExpr.frees (x.args.take q) b (x.inner b)++(x.args[q]).free (b++ [x.text]):=by
           rw[hft];by_cases h0:q=0<;>first|(exfalso;omega)|(simp[h0,GExpr.inner, *];done))
         have hfl2:=congrArg G_ hfree
         rw[a_]at hfl2
         refine bC (q+1) ⟨?_, ?_, ?_, ?_⟩ (show q+1≤x.args.length by omega) (show x.args.length - (q+1)<x.args.length - q by omega)
         ·simp[bI,AV.fits,AC.fits,FB,aW]
         ·refine⟨⟨?_,rfl,rfl, ?_,rfl⟩, ?_⟩
          ·first|(rw[hfree];done)|(rw[hfree];simp[nS])
          ·first|(simp only[nS];omega)|(simp only[nS,hfl2];omega)|(simp[nS,hfl2];omega)
          ·first|exact gB _|exact IZ _ _
         ·refine⟨rfl, ?_,rfl,xX _ ⟨rfl,trivial⟩⟩
          simp only[List.cons.injEq,AC.own.injEq,and_true,true_and]
          omega
         ·exact adh hpb (m':=bx.length+3) hfit (by simp[FB]) (by simp[FB]) (by simp) (by simp[iQ,AC.fits,FB]))
    ·obtain rfl:q=x.args.length:=by omega
     repeat' (first|((with_reducible refine hK _ ?_);clear hK K)|(with_reducible refine aj ?_ ?_)|((with_reducible refine gi ?_);first|(refine ay ?_ ?_;rfl)|(refine aA ?_ ?_;(rfl;refine gF ?_))|((with_reducible refine gS rfl ?_ ?_)<;>(intro hb hb';try(exfalso;omega))))|((with_reducible refine gxi ?_);first|(refine aQ ?_ ?_;rfl)|(refine aS ?_ ?_;(rfl;refine gxF ?_))|((with_reducible refine gxS rfl ?_ ?_)<;>(intro hb hb';try(exfalso;omega))))|((with_reducible refine aB ?_);refine ss (afY @GExpr.el (afY @GPart.el (afY @gK (afY @gu (afY @iw (afY @gq (afY @b_.{0} (afY @c_ @a_.{0})))))))) ?_)|((with_reducible refine bD ?_);refine sx (afY @GExpr.el (afY @GPart.el (afY @gK (afY @gu (afY @iw (afY @gq (afY @b_.{0} (afY @c_ @a_.{0})))))))) ?_)|refine nv ?_|(refine rD ?_;intro K hK)|(with_reducible (refine cS rfl ?_ ?_)<;>(intro hb hb';try(exfalso;omega)))|exact aG|exact aC)
     simp only[s_]
     exact JQ ⟨⟨⟨rfl,rfl,rfl,rfl,rfl⟩,gB _⟩,⟨rfl,rfl,rfl,xW _ _⟩,iP (bx:= [_,_,_]) (by simp only[iQ,n_,hpb];simp[AC.fits]) (hfit.mono (by simp) (by simp)),rfl⟩)
 ·obtain rfl:=hki
  have hkn:k<ox.length:=(List.getElem?_eq_some_iff.1 hk).1
  have hka:∀ys:List Own,(ox++ys)[k]? =some o:=fun ys=>by rw[List.getElem?_append_left hkn];exact hk
  simp only[undef,stS,st0,stN,D.av,D.avN,dX,dh,dZ,dY,fC,dP,dK,dJ,GExpr.bg,GExpr.aU,GExpr.bG,GExpr.el,GPart.bg,GPart.aU,GPart.bG,GPart.el,f_,h_,k_,g_,i_,d_,e_,l_,m_]
  repeat' (first|((with_reducible refine hK _ ?_);clear hK K)|(with_reducible refine aj ?_ ?_)|((with_reducible refine gi ?_);first|(refine ay ?_ ?_;rfl)|(refine aA ?_ ?_;(rfl;refine gF ?_))|((with_reducible refine gS rfl ?_ ?_)<;>(intro hb hb';try(exfalso;omega))))|((with_reducible refine gxi ?_);first|(refine aQ ?_ ?_;rfl)|(refine aS ?_ ?_;(rfl;refine gxF ?_))|((with_reducible refine gxS rfl ?_ ?_)<;>(intro hb hb';try(exfalso;omega))))|((with_reducible refine aI ?_);first|refine aO (hc:=yU b x.text) (ha:=by(simp[bW,oN,jV,nM,AC.toD,fE,dB,dR,fD,Value.oneCell',lQ,iC,lV,lU,dX,dh,dZ,dY,yQ,yR,GExpr.bg,hk,hka,hkl];first|done|rfl)) (h:= ?_))|((with_reducible refine Qs ?_);first|(refine callV ?_ (MJ pb hpb l x.text _ ver ox _ ?_ ?_) ?_))|((with_reducible refine GN ?_);first|(refine G5 ?_ (MJ pb hpb l x.text _ ver ox _ ?_ ?_) ?_))|((with_reducible refine aB ?_);refine ss (afY @GExpr.el (afY @GPart.el (afY @gK (afY @gu (afY @iw (afY @gq (afY @b_.{0} (afY @c_ (afY @a_.{0} (afY hneg (afY hk (afY hka hkl)))))))))))) ?_)|((with_reducible refine bD ?_);refine sx (afY @GExpr.el (afY @GPart.el (afY @gK (afY @gu (afY @iw (afY @gq (afY @b_.{0} (afY @c_ (afY @a_.{0} (afY hneg (afY hk (afY hka hkl)))))))))))) ?_)|refine nv ?_|(refine rD ?_;intro K hK)|(with_reducible (refine cS rfl ?_ ?_)<;>(intro hb hb';try(exfalso;omega)))|exact aG|exact aC)
  ·with_reducible refine MK ?_
   refine iP (bx:= [_]) (by simp[iQ,AC.fits]) (iP (hfit.mono (by omega) (by simp)) (by simp[iQ,AC.fits]))
  ·have hfr:x.free b= [x.text]:=by rw[hfree0];simp[*]
   rw[hfr]
   refine bP ⟨⟨⟨rfl,rfl,rfl,rfl,rfl⟩,gB _⟩,⟨rfl,rfl,rfl,xW _ _⟩, ?_,rfl⟩
   refine iP (bx:= [_,_,_]) (by simp only[iQ,n_,hpb];simp[AC.fits]) (hfit.mono (by simp) (by simp))
  all_goals
   (have hfr:x.free b=GExpr.frees x.args b (x.inner b):=by rw[hfree0];simp[*]
    rw[hfr]
    refine iV (X:=Nat) (fun q=> [.k,.d,.k,.d,.k,.d,.k,.d,.d,.d,.d,.d,.d,.d,.d,.d,.d,.d,.d,.d,.d,.d,.d,.d,.d,.d,.d,.d,.d,.d,.d,.d,.d,.d,.d,.d,.d,.d,.d,.d,.d,.d,.d,.d,.d,.d,.d,.d,.d,.d,.d,.d,.d,.d,.d,.d,.d,.k,.k,.v (.c false [.raw (.int .i64 (q:Nat))]),.d,.d,.d,.d,.d,.d,.d,.d,.d,.d,.d,.d,.d,.d,.d,.d,.d,.d,.d,.d,.d,.d]) (fun q=>nS (l++GExpr.frees (x.args.take q) b (x.inner b)) (ver+(GExpr.frees (x.args.take q) b (x.inner b)).length)::ox)
     (fun q bs=>Ua pb (ver+(GExpr.frees (x.args.take q) b (x.inner b)).length) (bx++ [[AC.raw (Value.int v_ x.kind),AC.raw (Value.int v_ x.n),AC.raw (Value.string x.text),AC.sl false (H_ GExpr.toD x.args)]])) (fun q=>q≤x.args.length) (fun q=>x.args.length - q) 0 (F_ _) (by intro q;simp) ?_ ?_
    ·refine⟨?_, ?_, ?_, ?_⟩
     ·simp[bI,AV.fits,AC.fits,FB,aW,hkn]
     ·simp[FB,aY,gB,nG,nS]
     ·simp[FB,aZ,mX,nG]
     ·exact adh hpb (m':=bx.length+3) hfit (by simp[FB]) (by simp[FB]) (by simp) (by simp[iQ,AC.fits,FB])
    intro q hq
    have hq':q≤x.args.length:=hq
    clear hq
    simp only[FB,aW]
    by_cases hlt:q<x.args.length
    ·have hmem:=r_ hlt
     have hV:=hI x.args[q] hmem
     have hwm:=AZ hmem
     have hft:=uQ x.args b (x.inner b) hlt
     have hfl:=og x.args b (x.inner b) q
     have hil:=xI x b
     have hroom:=Gt x b hlt
     simp only[J9,D.av,GExpr.bG,GExpr.bg]at hV
     repeat' (first|((with_reducible refine hK _ ?_);clear hK K)|(with_reducible refine aj ?_ ?_)|((with_reducible refine gi ?_);first|(refine ay ?_ ?_;rfl)|(refine aA ?_ ?_;(rfl;refine gF ?_))|((with_reducible refine gS rfl ?_ ?_)<;>(intro hb hb';try(exfalso;omega))))|((with_reducible refine gxi ?_);first|(refine aQ ?_ ?_;rfl)|(refine aS ?_ ?_;(rfl;refine gxF ?_))|((with_reducible refine gxS rfl ?_ ?_)<;>(intro hb hb';try(exfalso;omega))))|((with_reducible refine aI ?_);first|(refine callS (hV b _ _ _ _ _ (ae8 hk rfl hkl) ?_ ?_ ?_) ?_)|(refine callS (hV (b++ [x.text]) _ _ _ _ _ (WV rfl (by simp[ls])) ?_ ?_ ?_) ?_))|((with_reducible refine aB ?_);refine ss (afY @GExpr.el (afY @GPart.el (afY @gK (afY @gu (afY @iw (afY @gq (afY @b_.{0} (afY @c_ (afY @a_.{0} (afY hk (afY hka hkl))))))))))) ?_)|((with_reducible refine bD ?_);refine sx (afY @GExpr.el (afY @GPart.el (afY @gK (afY @gu (afY @iw (afY @gq (afY @b_.{0} (afY @c_ (afY @a_.{0} (afY hk (afY hka hkl))))))))))) ?_)|refine nv ?_|(refine rD ?_;intro K hK)|(with_reducible (refine cS rfl ?_ ?_)<;>(intro hb hb';try(exfalso;omega)))|exact aG|exact aC)
     all_goals first
      |(simp only[a_,d_,e_];omega)
      | (with_reducible refine MK ?_
         first
          |exact iP (hfit.mono (by simp) (by simp)) (by simp[iQ,AC.fits])
          |exact iP (hfit.mono (by simp;omega) (by simp;omega)) (by simp[iQ,AC.fits]))
      | (first
       |(have hfree:GExpr.frees (x.args.take (q+1)) b (x.inner b)=GExpr.frees (x.args.take q) b (x.inner b)++(x.args[q]).free b:=by
           rw[hft];by_cases h0:q=0<;>first|(exfalso;omega)|(simp[h0,GExpr.inner, *];done))
       |(have hfree:GExpr.frees (x.args.take (q+1)) b (x.inner b)=GExpr.frees (x.args.take q) b (x.inner b)++(x.args[q]).free (b++ [x.text]):=by
           rw[hft];by_cases h0:q=0<;>first|(exfalso;omega)|(simp[h0,GExpr.inner, *];done))
         have hfl2:=congrArg G_ hfree
         rw[a_]at hfl2
         refine bC (q+1) ⟨?_, ?_, ?_, ?_⟩ (show q+1≤x.args.length by omega) (show x.args.length - (q+1)<x.args.length - q by omega)
         ·simp[bI,AV.fits,AC.fits,FB,aW,hkn]
         ·refine⟨⟨?_,rfl,rfl, ?_,rfl⟩, ?_⟩
          ·first|(rw[hfree];done)|(rw[hfree];simp[nS])
          ·first|(simp only[nS];omega)|(simp only[nS,hfl2];omega)|(simp[nS,hfl2];omega)
          ·first|exact gB _|exact IZ _ _
         ·refine⟨rfl, ?_,rfl,xX _ ⟨rfl,trivial⟩⟩
          simp only[List.cons.injEq,AC.own.injEq,and_true,true_and]
          omega
         ·exact adh hpb (m':=bx.length+3) hfit (by simp[FB]) (by simp[FB]) (by simp) (by simp[iQ,AC.fits,FB]))
    ·obtain rfl:q=x.args.length:=by omega
     repeat' (first|((with_reducible refine hK _ ?_);clear hK K)|(with_reducible refine aj ?_ ?_)|((with_reducible refine gi ?_);first|(refine ay ?_ ?_;rfl)|(refine aA ?_ ?_;(rfl;refine gF ?_))|((with_reducible refine gS rfl ?_ ?_)<;>(intro hb hb';try(exfalso;omega))))|((with_reducible refine gxi ?_);first|(refine aQ ?_ ?_;rfl)|(refine aS ?_ ?_;(rfl;refine gxF ?_))|((with_reducible refine gxS rfl ?_ ?_)<;>(intro hb hb';try(exfalso;omega))))|((with_reducible refine aB ?_);refine ss (afY @GExpr.el (afY @GPart.el (afY @gK (afY @gu (afY @iw (afY @gq (afY @b_.{0} (afY @c_ (afY @a_.{0} (afY hk (afY hka hkl))))))))))) ?_)|((with_reducible refine bD ?_);refine sx (afY @GExpr.el (afY @GPart.el (afY @gK (afY @gu (afY @iw (afY @gq (afY @b_.{0} (afY @c_ (afY @a_.{0} (afY hk (afY hka hkl))))))))))) ?_)|refine nv ?_|(refine rD ?_;intro K hK)|(with_reducible (refine cS rfl ?_ ?_)<;>(intro hb hb';try(exfalso;omega)))|exact aG|exact aC)
     simp only[s_]
     exact JQ ⟨⟨⟨rfl,rfl,rfl,rfl,rfl⟩,gB _⟩,⟨rfl,rfl,rfl,xW _ _⟩,iP (bx:= [_,_,_]) (by simp only[iQ,n_,hpb];simp[AC.fits]) (hfit.mono (by simp) (by simp)),rfl⟩)
theorem GPart.expr_wt(x:GPart):x.expr.toD.wt≤x.toD.wt:=by
 simp only[GPart.aP,D.wt,D.wts];omega
theorem Xd(pb:List AC)(hpb:∀n m,pb.all (AC.fits n m)=true):∀(n:Nat) (x:GExpr),x.toD.wt<n→J9 pb x:=by
 intro n
 induction n with
 |zero=>intro x h;omega
 | succ n ih=>
   intro x h
   exact YP pb hpb x (fun y hy=>ih y (by have:=AZ hy;omega))
theorem aci(pb:List AC)(hpb:∀n m,pb.all (AC.fits n m)=true)(x:GExpr):J9 pb x:=Xd pb hpb _ x (A_ _)
theorem acj(pb:List AC)(hpb:∀n m,pb.all (AC.fits n m)=true)(x:GExpr)(hw:x.toD.wt≤1048576):
 iE Tryz.prog 108 [.bptr 2 0,.c true (x.toD.acs false),.c false [.raw (.slice none 0 0)]] [nS [] 0] (Ua pb 0 []) YV [nS (x.free []) (x.free []).length] (Ua pb (x.free []).length []):=by
 have h:=aci pb hpb x [] [] (.c false [.sl true []]) 0 [] [] ael (by simp;omega) (by simp;omega) (by simp[iQ])
 simp only[i_,Nat.zero_add,D.av,GExpr.bG]at h
 refine Qz h fun E w vs hv=> ?_
 match vs,hv with
 | [v1,v2,v3],hv=>exact⟨hv.1,hv.2.1,aeO hv.2.2.1,trivial⟩
def Pn :IC:=(zd_ [zz_ 1 (.box (.t 0)),zz_ 2 (.mov (.k (.slice none 0 0)))] (zd_ [zz_ 5 (.brow true 9 1 0 false []),zz_ 3 (.alloc [(.slice none 0 0)]),⟨none,none,.store 1 (.t 3) (.t 5)⟩] (zd_ [zz_ 6 (.mkf 107 [(.t 3)]),zz_ 7 (.bld [.nilFunc,.nilFunc] [(0,1,(.t 6))]),zz_ 8 (.box (.t 7)),zw_ 4 8] (zd_ [zw_ 9 4,zr_ 10 4 1,zz_ 11 (.call 108 [(.t 9),(.t 10),(.k (.slice none 0 0))])] (zd_ [zs_ 12 1 3,zq_ 13 67 12,zw_ 2 13] .ret)))))
theorem Pm :aF Tryz.prog (Tryz.f94.body.getD .skip)=some Pn:=by kernel_rfl
theorem Ak(x:GExpr)(hw:x.toD.wt≤1048576):eH Tryz.prog 94 [x.toD] ((nT (x.free [])).map ls) 9 1:=by
 refine iM (fn:=Tryz.f94) (t:=2) (by kernel_rfl) (by kernel_rfl) (by kernel_rfl) Pm ?_
 change AWP _ _ _ (st0 14 _)
 have hm:=x.Gu []
 have hv:=acj (x.toD.acs false) (fun n m=>by simp[GExpr.bg,AC.fits]) x hw
 unfold Pn;refine zb_ ?_
 simp only[GExpr.bg]at hv
 simp only[undef,stS,st0,stN,D.av,D.avN,dX,dh,dZ,dY,fC,dP,dK,dJ,GExpr.bg,GExpr.aU,GExpr.bG,GExpr.el,GPart.bg,GPart.aU,GPart.bG,GPart.el,f_,h_,k_,g_,i_,d_,e_,l_,m_]
 repeat' (first|((with_reducible refine hK _ ?_);clear hK K)|(with_reducible refine aj ?_ ?_)|((with_reducible refine gi ?_);first|(refine ay ?_ ?_;rfl)|(refine aA ?_ ?_;(rfl;refine gF ?_))|((with_reducible refine gS rfl ?_ ?_)<;>(intro hb hb';try(exfalso;omega))))|((with_reducible refine gxi ?_);first|(refine aQ ?_ ?_;rfl)|(refine aS ?_ ?_;(rfl;refine gxF ?_))|((with_reducible refine gxS rfl ?_ ?_)<;>(intro hb hb';try(exfalso;omega))))|((with_reducible refine aI ?_);first|(refine callS hv ?_)|(refine dQ (rQ (x.free []) (by omega)) (cZ _) ?_ ?_))|((with_reducible refine aB ?_);refine ss (afY @GExpr.el (afY @GPart.el (afY @gK (afY @gu (afY @iw (afY @gq (afY @b_.{0} (afY @c_ @a_.{0})))))))) ?_)|((with_reducible refine bD ?_);refine sx (afY @GExpr.el (afY @GPart.el (afY @gK (afY @gu (afY @iw (afY @gq (afY @b_.{0} (afY @c_ @a_.{0})))))))) ?_)|refine nv ?_|(refine rD ?_;intro K hK)|(with_reducible (refine cS rfl ?_ ?_)<;>(intro hb hb';try(exfalso;omega)))|exact aG|exact aC)
 exact bP ⟨1,0,_,rfl,rfl,rfl,rfl,rfl,rfl,p_ rfl⟩
def OY :IC:=(zd_ [zz_ 1 (.box (.t 0)),zz_ 2 (.mov (.k (.slice none 0 0)))] (.seq (zd_ [zt_ 3 0 1,zs_ 4 1 3,zm_ 5 .neq 4 2] (.cond (.t 5) (zd_ [zz_ 2 (.mov (.k (.slice none 0 0)))] .ret) .skip)) (zd_ [zt_ 6 2 1,zr_ 7 4 6,zq_ 8 94 7,zw_ 2 8] .ret)))
theorem OX :aF Tryz.prog (Tryz.f66.body.getD .skip)=some OY:=by kernel_rfl
theorem nO(x:GPart)(hw:x.expr.toD.wt≤1048576):eH Tryz.prog 66 [x.toD] ((bn x).map ls) 9 1:=by
 refine rE (fn:=Tryz.f66) (t:=2) (by kernel_rfl) (by kernel_rfl) (by kernel_rfl) OX ?_
 change AWP _ _ _ (st0 9 _)
 have hf:=Ak x.expr hw
 unfold OY;refine zb_ ?_
 simp only[undef,stS,st0,stN,D.av,D.avN,dX,dh,dZ,dY,fC,dP,dK,dJ,GExpr.bg,GExpr.aU,GExpr.bG,GExpr.el,GPart.bg,GPart.aU,GPart.bG,GPart.el,f_,h_,k_,g_,i_,d_,e_,l_,m_]
 repeat' (first|((with_reducible refine hK _ ?_);clear hK K)|(with_reducible refine aj ?_ ?_)|((with_reducible refine gi ?_);first|(refine ay ?_ ?_;rfl)|(refine aA ?_ ?_;(rfl;refine gF ?_))|((with_reducible refine gS rfl ?_ ?_)<;>(intro hb hb';try(exfalso;omega))))|((with_reducible refine gxi ?_);first|(refine aQ ?_ ?_;rfl)|(refine aS ?_ ?_;(rfl;refine gxF ?_))|((with_reducible refine gxS rfl ?_ ?_)<;>(intro hb hb';try(exfalso;omega))))|((with_reducible refine aI ?_);first|(refine dQ hf (cZ _) ?_ ?_))|((with_reducible refine aB ?_);refine ss (afY @GExpr.el (afY @GPart.el (afY @gK (afY @gu (afY @iw (afY @gq (afY @b_.{0} (afY @c_ @a_.{0})))))))) ?_)|((with_reducible refine bD ?_);refine sx (afY @GExpr.el (afY @GPart.el (afY @gK (afY @gu (afY @iw (afY @gq (afY @b_.{0} (afY @c_ @a_.{0})))))))) ?_)|refine nv ?_|(refine rD ?_;intro K hK)|(with_reducible (refine cS rfl ?_ ?_)<;>(intro hb hb';try(exfalso;omega)))|exact aG|exact aC)
 ·have hu:bn x= []:=by simp[bn, *]
  rw[hu]
  exact aa6 rfl
 ·have hu:bn x=nT (x.expr.free []):=by simp[bn, *]
  rw[hu]
  exact BJ rfl rfl rfl rfl rfl rfl (p_ rfl)
theorem Ez :∀(a b:List D),D.wts (a++b)=D.wts a+D.wts b
 | [],b=>by simp[D.wts]
 |d::a,b=>by rw[g_,D.wts,D.wts,Ez a b];omega
def kZ(l:List GPart)(us:List ByteArray):List ByteArray:=us.filter fun s=>tY (eY l s l.length)== -1
theorem Oj(l:List GPart)(us:List ByteArray){k:Nat}(h:k<us.length)(e:(tY (eY l us[k] l.length)== -1)=true):kZ l (us.take (k+1))=kZ l (us.take k)++ [us[k]]:=by
 unfold kZ;rw[j_ h,z_,B_,if_pos e];rfl
theorem Ol(l:List GPart)(us:List ByteArray){k:Nat}(h:k<us.length)(e:(tY (eY l us[k] l.length)== -1)=false):kZ l (us.take (k+1))=kZ l (us.take k):=by
 unfold kZ;rw[j_ h,z_,B_,if_neg (by simp[e])];simp
def iU(l:List GPart):Nat→List ByteArray
 |0=> []
 |k+1=>iU l k++(match l[k]? with|some p=>kZ l (bn p)|none=> [])
theorem rZ(l:List GPart){k:Nat}(h:k<l.length):iU l (k+1)=iU l k++kZ l (bn l[k]):=by
 rw[iU,List.getElem?_eq_getElem h]
theorem EF(x:GPart):(bn x).length≤1+x.toD.wt:=by
 unfold bn
 split
 ·have:=Bg (x.expr.free [])
  have:=x.expr.jy []
  have:=x.expr_wt
  omega
 ·simp
theorem Fh(l:List GPart)(us:List ByteArray)(k:Nat):(kZ l (us.take k)).length≤us.length:=by
 unfold kZ
 refine Nat.le_trans (List.length_filter_le _ _) ?_
 rw[q_];omega
theorem yS(l:List GPart):∀(k:Nat),k≤l.length→(iU l k).length≤k+D.wts ((l.take k).map GPart.toD)
 |0,_=>by simp[iU]
 | k+1,h=>by
   have ih:=yS l k (by omega)
   have h1:k<l.length:=by omega
   rw[rZ l h1,a_,j_ h1,o_,Ez]
   have h2:=Fh l (bn l[k]) (bn l[k]).length
   rw[s_]at h2
   have h3:=EF l[k]
   simp only[f_,h_,D.wts]
   omega
theorem I9(l:List GPart){k:Nat}(h:k<l.length)(j:Nat):(iU l k).length+(kZ l ((bn l[k]).take j)).length≤l.length+D.wts (l.map GPart.toD):=by
 have h1:=yS l k (by omega)
 have h2:=Fh l (bn l[k]) j
 have h3:=EF l[k]
 have h4:=ql (l.map GPart.toD) k (by simpa using h)
 rw[← w_,u_]at h4
 omega
theorem yT(l:List GPart):(iU l l.length).length≤l.length+D.wts (l.map GPart.toD):=by
 have:=yS l l.length (E_ _)
 rwa[s_]at this
theorem lT{l:List GPart}(hw:l.length+D.wts (l.map GPart.toD)≤1048576){k:Nat}(h:k<l.length):(l[k]).expr.toD.wt≤1048576:=by
 have h4:=ql (l.map GPart.toD) k (by simpa using h)
 rw[u_]at h4
 have:=(l[k]).expr_wt
 omega
theorem iI(l:List GPart)(s:ByteArray)(hn:l.length≤1048576):aV Tryz.prog 24 [.sl (l.map GPart.toD),ls s] (.c false [.raw (.int .i64 (tY (eY l s l.length)))]):=xu fun w vs hr=>by
 obtain⟨v,u,rfl,h1,h2⟩:=XF hr
 obtain⟨fp,hS⟩:=zI h1
 obtain rfl:=rV h2
 exact KO l s fp v w hS hn
def Ac :IC:=(zd_ [zz_ 2 (.mov (.k (.slice none 0 0)))] (zd_ [zz_ 7 (.brow true 9 1 0 false []),zw_ 3 7] (.seq (zd_ [zk_ 4 0] (.block 0 (.loop (.seq (zd_ [zw_ 8 4,zw_ 9 0,zf_ 10 false 9,zl_ 11 .lss 8 10] (.cond (.t 11) .skip (.exit 0))) (.seq (.block 1 (zd_ [zw_ 14 0,zw_ 15 4,ze_ 16 14 14 15,zr_ 17 14 16,zq_ 18 35 17,zw_ 5 18] (zd_ [zk_ 6 0] (.block 2 (.loop (.seq (zd_ [zw_ 19 6,zw_ 20 5,zf_ 21 false 20,zl_ 22 .lss 19 21] (.cond (.t 22) .skip (.exit 2))) (.seq (.block 3 (zd_ [zw_ 25 0,zw_ 26 5,zw_ 27 6,ze_ 28 1 26 27,zs_ 29 1 28,zp_ 30 24 25 29,zm_ 31 .eql 30 (-1)] (.cond (.t 31) (.reg false [zw_ 32 3,zw_ 33 5,zw_ 34 6,ze_ 35 1 33 34,zs_ 36 1 35,zz_ 37 (.brow false 9 1 1 false [(.t 36)]),zz_ 38 (.app 9 1 (.t 32) (.t 37)),zw_ 3 38]) .skip))) (.reg false [zw_ 23 6,zm_ 24 .add 23 1,zw_ 6 24])))))))) (.reg false [zw_ 12 4,zm_ 13 .add 12 1,zw_ 4 13])))))) (zd_ [zw_ 39 3,zq_ 40 68 39,zw_ 2 40] .ret))))
theorem DN :aF Tryz.prog (Tryz.f33.body.getD .skip)=some Ac:=by kernel_rfl
theorem Dy(l:List GPart)(hw:l.length+D.wts (l.map GPart.toD)≤1048576):eH Tryz.prog 33 [.sl (l.map GPart.toD)] ((nT (iU l l.length)).map ls) 9 1:=by
 have hn:l.length≤1048576:=by omega
 have hall:=yT l
 refine iM (fn:=Tryz.f33) (t:=2) (by kernel_rfl) (by kernel_rfl) (by kernel_rfl) DN ?_
 unfold Ac;refine zb_ ?_
 change AWP _ _ _ (st0 41 _)
 simp only[undef,stS,st0,stN,D.av,D.avN,dX,dh,dZ,dY,fC,dP,dK,dJ,GExpr.bg,GExpr.aU,GExpr.bG,GExpr.el,GPart.bg,GPart.aU,GPart.bG,GPart.el,f_,h_,k_,g_,i_,d_,e_,l_,m_]
 repeat' (first|((with_reducible refine ak ?_);intro K hK)|((with_reducible refine hK _ ?_);clear hK K)|(with_reducible refine aj ?_ ?_)|((with_reducible refine aB ?_);refine ss (afY @GExpr.el @GPart.el) ?_)|refine nv ?_|(with_reducible (refine cS rfl ?_ ?_)<;>(intro hb hb';try(exfalso;omega)))|exact aG|exact aC)
 refine bF (X:=Nat×Nat) (fun q=> [.k,.d,.d,.v (.c false [.own 0 q.2]),.v (.c false [.raw (.int .i64 (q.1:Nat))]),.d,.d,.d,.d,.d,.d,.d,.d,.d,.d,.d,.d,.d,.d,.d,.d,.d,.d,.d,.d,.d,.d,.d,.d,.d,.d,.d,.d,.d,.d,.d,.d,.d,.d,.d,.d]) (fun q=> [⟨(iU l q.1).map ls,9,1,q.2,true⟩]) (fun q bs=> []) (fun q=>q.1≤l.length) (fun q=>l.length - q.1) (0,0) (by simp) ?_ ?_
 ·simp[bf,bI,aY,aZ,AV.fits,AC.fits,FB,aW,iU]
 rintro⟨i,v⟩ hi
 have hi':i≤l.length:=hi
 clear hi
 simp only[FB,aW]
 by_cases hlt:i<l.length
 ·repeat' (first|((with_reducible refine ak ?_);intro K hK)|((with_reducible refine hK _ ?_);clear hK K)|(with_reducible refine aj ?_ ?_)|((with_reducible refine aI ?_);first|(refine eX ((kS l[i] (lT hw hlt)).to (jY _)) trivial ?_ ?_))|((with_reducible refine fV ?_);first|(refine dM ((kS l[i] (lT hw hlt)).to (jY _)) trivial ?_ ?_))|((with_reducible refine aB ?_);refine ss (afY @GExpr.el @GPart.el) ?_)|refine nv ?_|(with_reducible (refine cS rfl ?_ ?_)<;>(intro hb hb';try(exfalso;omega)))|exact aG|exact aC)
  refine bF (X:=Nat×Nat) (fun r=> [.k,.d,.d,.v (.c false [.own 0 r.2]),.k,.k,.v (.c false [.raw (.int .i64 (r.1:Nat))]),.d,.d,.d,.d,.d,.d,.d,.d,.d,.d,.d,.d,.d,.d,.d,.d,.d,.d,.d,.d,.d,.d,.d,.d,.d,.d,.d,.d,.d,.d,.d,.d,.d,.d]) (fun r=> [⟨(iU l i++kZ l ((bn l[i]).take r.1)).map ls,9,1,r.2,true⟩]) (fun r bs=>bs) (fun r=>r.1≤(bn l[i]).length) (fun r=>(bn l[i]).length - r.1) (0,v) (by simp) ?_ ?_
  ·simp[bf,bI,aY,aZ,AV.fits,AC.fits,FB,aW,kZ,GPart.bg]
  rintro⟨j,u⟩ hj
  have hj':j≤(bn l[i]).length:=hj
  clear hj
  have hul:=tK l[i] (lT hw hlt)
  have hroom:=I9 l hlt j
  simp only[FB,aW]
  by_cases hlj:j<(bn l[i]).length
  ·cases he:(tY (eY l (bn l[i])[j] l.length)== -1)with
   | true=>
     have hs:=Oj l (bn l[i]) hlj he
     repeat' (first|((with_reducible refine ak ?_);intro K hK)|((with_reducible refine hK _ ?_);clear hK K)|(with_reducible refine aj ?_ ?_)|((with_reducible refine aI ?_);first|(refine eX (iI l (bn l[i])[j] hn) trivial ?_ ?_))|((with_reducible refine fV ?_);first|(refine dM (iI l (bn l[i])[j] hn) trivial ?_ ?_))|((with_reducible refine aB ?_);refine ss (afY @GExpr.el (afY @GPart.el he)) ?_)|refine nv ?_|(with_reducible (refine cS rfl ?_ ?_)<;>(intro hb hb';try(exfalso;omega)))|exact aG|exact aC)
     all_goals first
      |(simp only[t_,a_,d_,e_];omega)
      | (refine bC (j+1,u+1) ?_ (show j+1≤(bn l[i]).length by omega) (show(bn l[i]).length - (j+1)<(bn l[i]).length - j by omega)
         simp[bf,bI,aY,aZ,AV.fits,AC.fits,FB,aW,hs,GPart.bg,ls])
   | false=>
     have hs:=Ol l (bn l[i]) hlj he
     repeat' (first|((with_reducible refine ak ?_);intro K hK)|((with_reducible refine hK _ ?_);clear hK K)|(with_reducible refine aj ?_ ?_)|((with_reducible refine aI ?_);first|(refine eX (iI l (bn l[i])[j] hn) trivial ?_ ?_))|((with_reducible refine fV ?_);first|(refine dM (iI l (bn l[i])[j] hn) trivial ?_ ?_))|((with_reducible refine aB ?_);refine ss (afY @GExpr.el (afY @GPart.el he)) ?_)|refine nv ?_|(with_reducible (refine cS rfl ?_ ?_)<;>(intro hb hb';try(exfalso;omega)))|exact aG|exact aC)
     all_goals first
      |(simp only[t_,a_,d_,e_];omega)
      | (refine bC (j+1,u) ?_ (show j+1≤(bn l[i]).length by omega) (show(bn l[i]).length - (j+1)<(bn l[i]).length - j by omega)
         simp[bf,bI,aY,aZ,AV.fits,AC.fits,FB,aW,hs,GPart.bg,ls])
  ·obtain rfl:j=(bn l[i]).length:=by omega
   repeat' (first|((with_reducible refine ak ?_);intro K hK)|((with_reducible refine hK _ ?_);clear hK K)|(with_reducible refine aj ?_ ?_)|((with_reducible refine aB ?_);refine ss (afY @GExpr.el @GPart.el) ?_)|refine nv ?_|(with_reducible (refine cS rfl ?_ ?_)<;>(intro hb hb';try(exfalso;omega)))|exact aG|exact aC)
   refine bC (i+1,u) ?_ (show i+1≤l.length by omega) (show l.length - (i+1)<l.length - i by omega)
   simp[bf,bI,aY,aZ,AV.fits,AC.fits,FB,aW,rZ l hlt]
 ·obtain rfl:i=l.length:=by omega
  repeat' (first|((with_reducible refine ak ?_);intro K hK)|((with_reducible refine hK _ ?_);clear hK K)|(with_reducible refine aj ?_ ?_)|((with_reducible refine aI ?_);first|(refine dQ (rP (iU l l.length) (by omega)) (cZ _) ?_ ?_))|((with_reducible refine aB ?_);refine ss (afY @GExpr.el @GPart.el) ?_)|refine nv ?_|(with_reducible (refine cS rfl ?_ ?_)<;>(intro hb hb';try(exfalso;omega)))|exact aG|exact aC)
  exact bP ⟨_,_,_,rfl,rfl,rfl,rfl,rfl,rfl,p_ rfl⟩
theorem iJ(l:List GPart)(s:ByteArray)(hn:l.length≤1048576):aV Tryz.prog 22 [.sl (l.map GPart.toD),ls s] (.c false [.raw (.int .i64 (tY (eY l s l.length)))]):=xu fun w vs hr=>by
 obtain⟨v,u,rfl,h1,h2⟩:=XF hr
 obtain⟨fp,hS⟩:=zI h1
 obtain rfl:=rV h2
 exact zH l s fp v w hS hn
def Ad :IC:=(zd_ [zz_ 2 (.mov (.k (.slice none 0 0)))] (zd_ [zz_ 8 (.brow true 9 1 0 false []),zw_ 3 8] (.seq (zd_ [zw_ 9 0,zf_ 10 false 9,zk_ 11 0] (.block 0 (.loop (zd_ [zl_ 12 .lss 11 10] (.seq (.cond (.t 12) .skip (.exit 0)) (.seq (.block 1 (zd_ [ze_ 13 14 9 11,zr_ 14 14 13,zz_ 5 (.alloc [(.int .i64 0),(.string ⟨#[]⟩),(.int .i64 0),(.int .i64 0),(.string ⟨#[]⟩),(.slice none 0 0),(.int .i64 0),(.int .i64 0),(.int .i64 0),(.string ⟨#[]⟩),(.slice none 0 0),(.slice none 0 0),(.slice none 0 0),(.int .i64 0)]),⟨none,none,.store 14 (.t 5) (.t 14)⟩] (zd_ [zr_ 15 14 5,zq_ 16 66 15,zf_ 17 false 16,zk_ 18 0] (.block 2 (.loop (zd_ [zl_ 19 .lss 18 17] (.seq (.cond (.t 19) .skip (.exit 2)) (.seq (.block 3 (zd_ [ze_ 20 1 16 18,zs_ 21 1 20,zw_ 7 21] (zd_ [zw_ 22 0,zw_ 23 7,zp_ 24 22 22 23,zm_ 25 .eql 24 (-1)] (.cond (.t 25) (.reg false [zw_ 26 3,zw_ 27 7,zz_ 28 (.brow false 9 1 1 false [(.t 27)]),zz_ 29 (.app 9 1 (.t 26) (.t 28)),zw_ 3 29]) .skip)))) (.reg false [zm_ 30 .add 18 1,zw_ 18 30]))))))))) (.reg false [zm_ 31 .add 11 1,zw_ 11 31]))))))) (zd_ [zw_ 32 3,zq_ 33 67 32,zw_ 2 33] .ret))))
theorem DR :aF Tryz.prog (Tryz.f31.body.getD .skip)=some Ad:=by kernel_rfl
theorem Dz(l:List GPart)(hw:l.length+D.wts (l.map GPart.toD)≤1048576):eH Tryz.prog 31 [.sl (l.map GPart.toD)] ((nT (iU l l.length)).map ls) 9 1:=by
 have hn:l.length≤1048576:=by omega
 have hall:=yT l
 refine iM (fn:=Tryz.f31) (t:=2) (by kernel_rfl) (by kernel_rfl) (by kernel_rfl) DR ?_
 unfold Ad;refine zb_ ?_
 change AWP _ _ _ (st0 34 _)
 simp only[undef,stS,st0,stN,D.av,D.avN,dX,dh,dZ,dY,fC,dP,dK,dJ,GExpr.bg,GExpr.aU,GExpr.bG,GExpr.el,GPart.bg,GPart.aU,GPart.bG,GPart.el,f_,h_,k_,g_,i_,d_,e_,l_,m_]
 repeat' (first|((with_reducible refine ak ?_);intro K hK)|((with_reducible refine hK _ ?_);clear hK K)|(with_reducible refine aj ?_ ?_)|((with_reducible refine aB ?_);refine ss (afY @GExpr.el @GPart.el) ?_)|refine nv ?_|(with_reducible (refine cS rfl ?_ ?_)<;>(intro hb hb';try(exfalso;omega)))|exact aG|exact aC)
 refine bF (X:=Nat×Nat) (fun q=> [.k,.d,.d,.v (.c false [.own 0 q.2]),.d,.d,.d,.d,.d,.k,.k,.v (.c false [.raw (.int .i64 (q.1:Nat))]),.d,.d,.d,.d,.d,.d,.d,.d,.d,.d,.d,.d,.d,.d,.d,.d,.d,.d,.d,.d,.d,.d]) (fun q=> [⟨(iU l q.1).map ls,9,1,q.2,true⟩]) (fun q bs=> []) (fun q=>q.1≤l.length) (fun q=>l.length - q.1) (0,0) (by simp) ?_ ?_
 ·simp[bf,bI,aY,aZ,AV.fits,AC.fits,FB,aW,iU]
 rintro⟨i,v⟩ hi
 have hi':i≤l.length:=hi
 clear hi
 simp only[FB,aW]
 by_cases hlt:i<l.length
 ·repeat' (first|((with_reducible refine ak ?_);intro K hK)|((with_reducible refine hK _ ?_);clear hK K)|(with_reducible refine aj ?_ ?_)|((with_reducible refine aI ?_);first|(refine eX ((nO l[i] (lT hw hlt)).to (jY _)) trivial ?_ ?_))|((with_reducible refine fV ?_);first|(refine dM ((nO l[i] (lT hw hlt)).to (jY _)) trivial ?_ ?_))|((with_reducible refine aB ?_);refine ss (afY @GExpr.el @GPart.el) ?_)|refine nv ?_|(with_reducible (refine cS rfl ?_ ?_)<;>(intro hb hb';try(exfalso;omega)))|exact aG|exact aC)
  refine bF (X:=Nat×Nat) (fun r=> [.k,.d,.d,.v (.c false [.own 0 r.2]),.d,.d,.d,.d,.d,.k,.k,.k,.d,.d,.d,.d,.k,.k,.v (.c false [.raw (.int .i64 (r.1:Nat))]),.d,.d,.d,.d,.d,.d,.d,.d,.d,.d,.d,.d,.d,.d,.d]) (fun r=> [⟨(iU l i++kZ l ((bn l[i]).take r.1)).map ls,9,1,r.2,true⟩]) (fun r bs=>bs) (fun r=>r.1≤(bn l[i]).length) (fun r=>(bn l[i]).length - r.1) (0,v) (by simp) ?_ ?_
  ·simp[bf,bI,aY,aZ,AV.fits,AC.fits,FB,aW,kZ,GPart.bg]
  rintro⟨j,u⟩ hj
  have hj':j≤(bn l[i]).length:=hj
  clear hj
  have hul:=tK l[i] (lT hw hlt)
  have hroom:=I9 l hlt j
  simp only[FB,aW]
  by_cases hlj:j<(bn l[i]).length
  ·cases he:(tY (eY l (bn l[i])[j] l.length)== -1)with
   | true=>
     have hs:=Oj l (bn l[i]) hlj he
     repeat' (first|((with_reducible refine ak ?_);intro K hK)|((with_reducible refine hK _ ?_);clear hK K)|(with_reducible refine aj ?_ ?_)|((with_reducible refine aI ?_);first|(refine eX (iJ l (bn l[i])[j] hn) trivial ?_ ?_))|((with_reducible refine fV ?_);first|(refine dM (iJ l (bn l[i])[j] hn) trivial ?_ ?_))|((with_reducible refine aB ?_);refine ss (afY @GExpr.el (afY @GPart.el he)) ?_)|refine nv ?_|(with_reducible (refine cS rfl ?_ ?_)<;>(intro hb hb';try(exfalso;omega)))|exact aG|exact aC)
     all_goals first
      |(simp only[t_,a_,d_,e_];omega)
      | (refine bC (j+1,u+1) ?_ (show j+1≤(bn l[i]).length by omega) (show(bn l[i]).length - (j+1)<(bn l[i]).length - j by omega)
         simp[bf,bI,aY,aZ,AV.fits,AC.fits,FB,aW,hs,GPart.bg,ls])
   | false=>
     have hs:=Ol l (bn l[i]) hlj he
     repeat' (first|((with_reducible refine ak ?_);intro K hK)|((with_reducible refine hK _ ?_);clear hK K)|(with_reducible refine aj ?_ ?_)|((with_reducible refine aI ?_);first|(refine eX (iJ l (bn l[i])[j] hn) trivial ?_ ?_))|((with_reducible refine fV ?_);first|(refine dM (iJ l (bn l[i])[j] hn) trivial ?_ ?_))|((with_reducible refine aB ?_);refine ss (afY @GExpr.el (afY @GPart.el he)) ?_)|refine nv ?_|(with_reducible (refine cS rfl ?_ ?_)<;>(intro hb hb';try(exfalso;omega)))|exact aG|exact aC)
     all_goals first
      |(simp only[t_,a_,d_,e_];omega)
      | (refine bC (j+1,u) ?_ (show j+1≤(bn l[i]).length by omega) (show(bn l[i]).length - (j+1)<(bn l[i]).length - j by omega)
         simp[bf,bI,aY,aZ,AV.fits,AC.fits,FB,aW,hs,GPart.bg,ls])
  ·obtain rfl:j=(bn l[i]).length:=by omega
   repeat' (first|((with_reducible refine ak ?_);intro K hK)|((with_reducible refine hK _ ?_);clear hK K)|(with_reducible refine aj ?_ ?_)|((with_reducible refine aB ?_);refine ss (afY @GExpr.el @GPart.el) ?_)|refine nv ?_|(with_reducible (refine cS rfl ?_ ?_)<;>(intro hb hb';try(exfalso;omega)))|exact aG|exact aC)
   refine bC (i+1,u) ?_ (show i+1≤l.length by omega) (show l.length - (i+1)<l.length - i by omega)
   simp[bf,bI,aY,aZ,AV.fits,AC.fits,FB,aW,rZ l hlt]
 ·obtain rfl:i=l.length:=by omega
  repeat' (first|((with_reducible refine ak ?_);intro K hK)|((with_reducible refine hK _ ?_);clear hK K)|(with_reducible refine aj ?_ ?_)|((with_reducible refine aI ?_);first|(refine dQ (rQ (iU l l.length) (by omega)) (cZ _) ?_ ?_))|((with_reducible refine aB ?_);refine ss (afY @GExpr.el @GPart.el) ?_)|refine nv ?_|(with_reducible (refine cS rfl ?_ ?_)<;>(intro hb hb';try(exfalso;omega)))|exact aG|exact aC)
  exact bP ⟨_,_,_,rfl,rfl,rfl,rfl,rfl,rfl,p_ rfl⟩
end Go.Proofs.YtfjmoicellpnhaaGreat
