/-
  Texts joined: Psr1 Psr2.
-/
import Derived.Test.YtfjmoicellpnhaaGreatJM
import Derived.Test.YtfjmoicellpnhaaGreatJG
set_option maxHeartbeats 16000000
set_option maxRecDepth 8000
set_option linter.unusedSimpArgs false
set_option linter.unusedVariables false
namespace Go.Proofs.YtfjmoicellpnhaaGreat
open Go.RowKit
open List renaming size_toArray→a_,length_nil→b_
attribute [local irreducible] sw sd sn
theorem yj{P:Program}{t s:Nat}{v u v' u':Value}{st:St}{post:AV→List Own→Prop}(h1:st.fr.getD t .any= .c false [.raw v])(h2:st.fr.getD s .any= .c false [.raw v'])(hv:v=u)(hv':v'=u')(hq:post (.tup [(false,[.raw u]),(false,[.raw u'])]) []):
 iG (Dy P (.tmp t) (.tmp s) post) .ret st:=by
 subst hv hv';exact⟨false,false,[.raw v],[.raw v'],[],[],hq,rfl,rfl,by simp,trivial,rfl,rfl,⟨_,h1,⟨rfl,trivial⟩⟩,⟨_,h2,⟨rfl,trivial⟩⟩⟩
def Mc :IC:=(zd_ [zj_ 2 false] (zd_ [zw_ 3 0,zz_ 4 (.bin .geq (.t 3) (.k (.int .u8 97))),zw_ 5 4,zv_ 6 5 0,zy_ 7 5 (.bin .leq (.t 6) (.k (.int .u8 122))),zh_ 8 5 7 false,zw_ 2 8] .ret))
theorem OL :ak Tryz.prog (Tryz.f205.body.getD .skip)=some Mc:=by kernel_rfl
theorem Ip(c:UInt8):bC Tryz.prog 205 [lu8 c] (fun r os'=>(∃b:Bool,r= .c false [.raw (.bool b)])∧os'= []):=by
 refine dS (fn:=Tryz.f205) (r:= .tmp 2) (hc:=OL) (h:= ?_);unfold Mc;refine zb_ ?_;change AWP _ _ _ (st0 9 _);unfold lu8;refine sS tdX ?_
 repeat' (first|(refine rg_ ?_;intro K hK)|(refine hq_ ?_;clear hK K)|refine ca_ ?_ ?_|refine gq_ ?_|(refine c2_ ?_ ?_<;>(intro hb hb';try(exfalso;omega)))|refine sz_ tdE ?_|refine nv ?_|exact bq_|fail)
 all_goals exact bQ rfl rfl ⟨⟨_,rfl⟩,rfl⟩
def SL :IC:=(zd_ [zj_ 2 false] (zd_ [zw_ 3 0,zz_ 4 (.bin .geq (.t 3) (.k (.int .u8 48))),zw_ 5 4,zv_ 6 5 0,zy_ 7 5 (.bin .leq (.t 6) (.k (.int .u8 57))),zh_ 8 5 7 false,zw_ 2 8] .ret))
theorem SK :ak Tryz.prog (Tryz.f206.body.getD .skip)=some SL:=by kernel_rfl
theorem Di(c:UInt8):bC Tryz.prog 206 [lu8 c] (fun r os'=>(∃b:Bool,r= .c false [.raw (.bool b)])∧os'= []):=by
 refine dS (fn:=Tryz.f206) (r:= .tmp 2) (hc:=SK) (h:= ?_);unfold SL;refine zb_ ?_;change AWP _ _ _ (st0 9 _);unfold lu8;refine sS tdX ?_
 repeat' (first|(refine rg_ ?_;intro K hK)|(refine hq_ ?_;clear hK K)|refine ca_ ?_ ?_|refine gq_ ?_|(refine c2_ ?_ ?_<;>(intro hb hb';try(exfalso;omega)))|refine sz_ tdE ?_|refine nv ?_|exact bq_|fail)
 all_goals exact bQ rfl rfl ⟨⟨_,rfl⟩,rfl⟩
def Jb :IC:=(zd_ [zk_ 4 0,zj_ 5 false] (zd_ [zw_ 10 0,zf_ 11 true 10,zm_ 12 .gtr 11 0,zw_ 13 12,zv_ 14 13 0,zy_ 15 13 (.sidx (.t 14) (.k (.int .i64 0))),zy_ 16 13 (.bin .eql (.t 15) (.k (.int .u8 45))),zh_ 17 13 16 false,zw_ 6 17] (zd_ [zw_ 18 0,zw_ 7 18] (.seq (zd_ [zw_ 19 6] (.cond (.t 19) (.reg false [zw_ 20 0,zz_ 21 (.ssl (.t 20) (some (.k (.int .i64 1))) none),zw_ 7 21]) .skip)) (.seq (zd_ [zw_ 22 7,zf_ 23 true 22,zm_ 24 .lss 23 1,zw_ 25 24,zu_ 26 25 7,zx_ 27 25 (.len true (.t 26)),zu_ 28 25 1,zx_ 29 25 (.bin .gtr (.t 27) (.t 28)),zg_ 30 25 true 29] (.cond (.t 30) (zd_ [zk_ 4 0,zj_ 5 false] .ret) .skip)) (zd_ [zk_ 8 0] (.seq (zd_ [zk_ 9 0] (.block 0 (.loop (.seq (zd_ [zw_ 31 9,zw_ 32 7,zf_ 33 true 32,zl_ 34 .lss 31 33] (.cond (.t 34) .skip (.exit 0))) (.seq (.block 1 (.seq (zd_ [zw_ 37 7,zw_ 38 9,zz_ 39 (.sidx (.t 37) (.t 38)),zz_ 40 (.bin .lss (.t 39) (.k (.int .u8 48))),zw_ 41 40,zu_ 42 41 7,zu_ 43 41 9,zx_ 44 41 (.sidx (.t 42) (.t 43)),zx_ 45 41 (.bin .gtr (.t 44) (.k (.int .u8 57))),zg_ 46 41 true 45] (.cond (.t 46) (zd_ [zk_ 4 0,zj_ 5 false] .ret) .skip)) (.reg false [zw_ 47 8,zz_ 48 (.bin .mul (.k (.int .i64 10)) (.t 47)),zw_ 49 7,zw_ 50 9,zz_ 51 (.sidx (.t 49) (.t 50)),zz_ 52 (.bin .sub (.t 51) (.k (.int .u8 48))),zz_ 53 (.cvi .i64 (.t 52)),zl_ 54 .add 48 53,zw_ 8 54]))) (.reg false [zw_ 35 9,zm_ 36 .add 35 1,zw_ 9 36])))))) (.seq (zd_ [zw_ 55 6] (.cond (.t 55) (.reg false [zw_ 56 8,zz_ 57 (.bin .sub (.k (.int .i64 0)) (.t 56)),zw_ 8 57]) .skip)) (.seq (zd_ [zw_ 58 8,zq_ 59 126 58,zw_ 60 0,zl_ 61 .neq 59 60] (.cond (.t 61) (zd_ [zk_ 4 0,zj_ 5 false] .ret) .skip)) (zd_ [zw_ 62 8,zw_ 4 62,zj_ 5 true] .ret))))))))))
theorem KJ :ak Tryz.prog (Tryz.f213.body.getD .skip)=some Jb:=by kernel_rfl
theorem ah9(c:UInt8):∃d:Int,0≤d∧d≤255∧IntKind.i64.wrap (IntKind.u8.wrap (((c.toNat:Nat):Int) - 48))=d:=by
 have h:0≤IntKind.u8.wrap (((c.toNat:Nat):Int) - 48)∧IntKind.u8.wrap (((c.toNat:Nat):Int) - 48)≤255:=by
  have h1:=Int.emod_nonneg (((c.toNat:Nat):Int) - 48) (show(256:Int)≠0 by decide);have h2:=Int.emod_lt_of_pos (((c.toNat:Nat):Int) - 48) (show(0:Int)<256 by decide);show 0≤(((c.toNat:Nat):Int) - 48) % 256∧(((c.toNat:Nat):Int) - 48) % 256≤255;omega
 exact⟨_,h.1,h.2,jf (by omega) (by omega)⟩
theorem adI(n:Int)(h0: -100000000000000≤n)(h1:n≤100000000000000):bC Tryz.prog 126 [li n] (fun r os'=>(∃s:ByteArray,r= .c false [.raw (.string s)])∧os'= []):=fun w vs hr ht=>
 (oD (n:=n) (by omega) (by omega) w vs hr ht).mono fun e w' ⟨v,he,hv,hb⟩=>⟨_,[],⟨⟨Jw n,rfl⟩,rfl⟩,rfl,by
  obtain rfl:v= .string (Jw n):=hv.1;exact⟨_,[],he,⟨rfl,fun k o p hk=>by simp at hk,by simp,Lin.nil,Unf.nil⟩,⟨rfl,trivial⟩,hb⟩⟩
theorem aal(s:ByteArray)(hs:s.size≤1048576):bC Tryz.prog 213 [ls s,li 12] (fun r os'=>(∃(n:Int) (b:Bool),r= .tup [(false,[.raw (.int .i64 n)]),(false,[.raw (.bool b)])])∧os'= []):=by
 refine pK (fn:=Tryz.f213) (r:= .tmp 4) (q:= .tmp 5) (hc:=KJ) (h:= ?_);unfold Jb;refine zb_ ?_;change AWP _ _ _ (st0 63 _);refine sS tdX ?_;by_cases hs0:0<s.size
 ·have hT0:decide ((s.size:Int) > 0)=true:=decide_eq_true (by omega);have hsx:s.data[Int.toNat 0]? =some s[0]:=jW hs0
  repeat' (first|(refine rg_ ?_;intro K hK)|(refine hq_ ?_;clear hK K)|refine ca_ ?_ ?_|refine gq_ ?_|(refine c2_ ?_ ?_<;>(intro hb hb';try(exfalso;omega)))|refine sz_ (a4_ tdE hT0 hsx @jV) ?_|refine nv ?_|exact bq_|fail)
  all_goals first
   |exact yj rfl rfl rfl rfl ⟨⟨_,_,rfl⟩,rfl⟩
   | (have hx:decide (((s.extract 1 s.size).size:Int) > 12)=false:=by assumption
      generalize s.extract 1 s.size=t at*)
   |(obtain⟨t,rfl⟩:∃t:ByteArray,t=s:=⟨s,rfl⟩)
  all_goals(
  clear hsx hT0;refine aQ (X:=Nat×Int) (fun z=> [.k,.d,.d,.d,.d,.d,.k,.k,.v (.c false [.raw (.int .i64 (z.2))]),.v (.c false [.raw (.int .i64 ((z.1:Nat)))])]) (fun _=> []) (fun _ _=> []) (fun z=>z.1≤t.size∧0≤z.2∧z.2+29≤((29*10 ^ z.1:Nat):Int)) (fun z=>t.size - z.1) (0,0) ⟨Nat.zero_le _,Int.le_refl _,by simp⟩ ?_ ?_
  ·simp[aG,aU,aC,aF,AV.fits,AC.fits,FB,aB]
  rintro⟨k,n⟩ ⟨hk,hn0,hn1⟩;simp only at hk hn0 hn1;simp only[FB,aB];have hp:10 ^ k≤10 ^ 12:=Nat.pow_le_pow_right (by decide) (by omega);have hp1:(10:Nat) ^ (k+1)=10*10 ^ k:=by rw[Nat.pow_succ,Nat.mul_comm]
  by_cases hlt:k<t.size
  ·have hT:decide ((k:Int)<(t.size:Int))=true:=decide_eq_true (by omega);have hw1:IntKind.i64.wrap ((k:Int)+1)=((k+1:Nat):Int):=dJ (by omega);have hsx:=jW hlt;have hw2:IntKind.i64.wrap (10*n)=10*n:=jf (by omega) (by omega);obtain⟨d,hd0,hd1,hd⟩:=ah9 (t[k]);have hw3:IntKind.i64.wrap (10*n+d)=10*n+d:=jf (by omega) (by omega)
   repeat' (first|(refine rg_ ?_;intro K hK)|(refine hq_ ?_;clear hK K)|refine ca_ ?_ ?_|refine gq_ ?_|(refine c2_ ?_ ?_<;>(intro hb hb';try(exfalso;omega)))|refine sz_ (a8_ tdE hT hw1 hw2 hw3 hsx hd @jV) ?_|refine nv ?_|exact bq_|fail)
   all_goals first
    |omega
    |exact yj rfl rfl rfl rfl ⟨⟨_,_,rfl⟩,rfl⟩
    | (refine aP (k+1,10*n+d) ?_ ⟨by simp only;omega,by simp only;omega,by simp only;rw[hp1];omega⟩ (show t.size - (k+1)<t.size - k by omega)
       simp[aG,aU,aC,aF,AV.fits,AC.fits,FB,aB])
  ·have hT:decide ((k:Int)<(t.size:Int))=false:=decide_eq_false (by omega);have hw4:IntKind.i64.wrap (0 - n)= - n:=by rw[Int.zero_sub];exact jf (by omega) (by omega)
   repeat' (first|(refine rg_ ?_;intro K hK)|(refine hq_ ?_;clear hK K)|refine ca_ ?_ ?_|refine gq_ ?_|(refine c2_ ?_ ?_<;>(intro hb hb';try(exfalso;omega)))|(refine cg_ ?_;first|(refine bn (h:=(adI _ (by omega) (by omega))) (hK:= ?_);rintro _ _ ⟨⟨u,rfl⟩,rfl⟩))|refine sz_ (a3_ tdE hT hw4) ?_|refine nv ?_|exact bq_|fail)
   all_goals first
    |omega
    |exact yj rfl rfl rfl rfl ⟨⟨_,_,rfl⟩,rfl⟩)
 ·have hT0:decide ((s.size:Int) > 0)=false:=decide_eq_false (by omega)
  repeat' (first|(refine rg_ ?_;intro K hK)|(refine hq_ ?_;clear hK K)|refine ca_ ?_ ?_|refine gq_ ?_|(refine c2_ ?_ ?_<;>(intro hb hb';try(exfalso;omega)))|refine sz_ (a3_ tdE hT0 @jV) ?_|refine nv ?_|exact bq_|fail)
  all_goals first
   |omega
   |exact yj rfl rfl rfl rfl ⟨⟨_,_,rfl⟩,rfl⟩
def CG :IC:=(zd_ [zk_ 2 0,zj_ 3 false] (zd_ [zw_ 4 0,zn_ 5 213 4 12,zz_ 6 (.ext 0 (.t 5)),zz_ 7 (.ext 1 (.t 5)),zw_ 2 6,zw_ 3 7] .ret))
theorem FX :ak Tryz.prog (Tryz.f182.body.getD .skip)=some CG:=by kernel_rfl
theorem xJ(s:ByteArray)(hs:s.size≤1048576):bC Tryz.prog 182 [ls s] (fun r os'=>(∃(n:Int) (b:Bool),r= .tup [(false,[.raw (.int .i64 n)]),(false,[.raw (.bool b)])])∧os'= []):=by
 refine pK (fn:=Tryz.f182) (r:= .tmp 2) (q:= .tmp 3) (hc:=FX) (h:= ?_);unfold CG;refine zb_ ?_;change AWP _ _ _ (st0 8 _);refine sS tdX ?_
 repeat' (first|(refine rg_ ?_;intro K hK)|(refine hq_ ?_;clear hK K)|refine ca_ ?_ ?_|(refine cg_ ?_;first|(refine bn (h:=(aal _ hs)) (hK:= ?_);rintro _ _ ⟨⟨n,b,rfl⟩,rfl⟩))|refine sz_ tdE ?_|refine nv ?_|(refine c2_ ?_ ?_<;>(intro hb hb';try(exfalso;omega)))|exact bq_|fail)
 exact yj rfl rfl rfl rfl ⟨⟨_,_,rfl⟩,rfl⟩
def Ym :IC:=(zd_ [zk_ 4 0] (.seq (zd_ [zw_ 5 0,zw_ 6 1,zz_ 7 (.sidx (.t 5) (.t 6))] (.block 0 (.seq (zd_ [zz_ 9 (.bin .eql (.t 7) (.k (.int .u8 40))),zw_ 8 9] (.cond (.t 8) .skip (zd_ [zz_ 10 (.bin .eql (.t 7) (.k (.int .u8 41))),zw_ 8 10] (.cond (.t 8) .skip (zd_ [zz_ 11 (.bin .eql (.t 7) (.k (.int .u8 91))),zw_ 8 11] (.cond (.t 8) .skip (zd_ [zz_ 12 (.bin .eql (.t 7) (.k (.int .u8 93))),zw_ 8 12] (.cond (.t 8) .skip (zd_ [zz_ 13 (.bin .eql (.t 7) (.k (.int .u8 44))),zw_ 8 13] (.cond (.t 8) .skip (zd_ [zz_ 14 (.bin .eql (.t 7) (.k (.int .u8 43))),zw_ 8 14] (.cond (.t 8) .skip (zd_ [zz_ 15 (.bin .eql (.t 7) (.k (.int .u8 45))),zw_ 8 15] (.cond (.t 8) .skip (zd_ [zz_ 16 (.bin .eql (.t 7) (.k (.int .u8 42))),zw_ 8 16] (.cond (.t 8) .skip (.reg false [zz_ 17 (.bin .eql (.t 7) (.k (.int .u8 60))),zw_ 8 17]))))))))))))))))) (.cond (.t 8) (zd_ [zk_ 4 1] .ret) (zd_ [zz_ 19 (.bin .eql (.t 7) (.k (.int .u8 61))),zw_ 18 19] (.cond (.t 18) (.seq (zd_ [zw_ 20 1,zm_ 21 .add 20 1,zw_ 22 0,zf_ 23 true 22,zl_ 24 .lss 21 23,zw_ 25 24,zv_ 26 25 0,zv_ 27 25 1,zy_ 28 25 (.bin .add (.t 27) (.k (.int .i64 1))),zy_ 29 25 (.sidx (.t 26) (.t 28)),zy_ 30 25 (.bin .eql (.t 29) (.k (.int .u8 61))),zh_ 31 25 30 false] (.cond (.t 31) (zd_ [zk_ 4 2] .ret) .skip)) (zd_ [zk_ 4 1] .ret)) .skip)))))) (zd_ [zk_ 4 0] .ret)))
theorem VD :ak Tryz.prog (Tryz.f207.body.getD .skip)=some Ym:=by kernel_rfl
theorem ahp(s:ByteArray)(k:Nat)(hs:s.size≤1048576)(hk:k<s.size):bC Tryz.prog 207 [ls s,li (k:Int)] (fun r os'=>(∃m:Nat,k+m≤s.size∧r= .c false [.raw (.int .i64 (m:Int))])∧os'= []):=by
 refine dS (fn:=Tryz.f207) (r:= .tmp 4) (hc:=VD) (h:= ?_);unfold Ym;refine zb_ ?_;change AWP _ _ _ (st0 32 _);refine sS tdX ?_;have hsx:=jW hk;have hw1:IntKind.i64.wrap ((k:Int)+1)=((k+1:Nat):Int):=dJ (by omega);by_cases hk1:k+1<s.size
 ·have hT:decide (((k+1:Nat):Int)<(s.size:Int))=true:=decide_eq_true (by omega);have hsx1:=jW hk1
  repeat' (first|(refine rg_ ?_;intro K hK)|(refine hq_ ?_;clear hK K)|refine ca_ ?_ ?_|refine gq_ ?_|(refine c2_ ?_ ?_<;>(intro hb hb';try(exfalso;omega)))|refine sz_ (a6_ tdE hT hw1 hsx hsx1 @jV) ?_|refine nv ?_|exact bq_|fail)
  all_goals first
   |omega
   |exact bQ rfl rfl ⟨⟨1,by omega,rfl⟩,rfl⟩
   |exact bQ rfl rfl ⟨⟨2,by omega,rfl⟩,rfl⟩
   |exact bQ rfl rfl ⟨⟨0,by omega,rfl⟩,rfl⟩
 ·have hT:decide (((k+1:Nat):Int)<(s.size:Int))=false:=decide_eq_false (by omega)
  repeat' (first|(refine rg_ ?_;intro K hK)|(refine hq_ ?_;clear hK K)|refine ca_ ?_ ?_|refine gq_ ?_|(refine c2_ ?_ ?_<;>(intro hb hb';try(exfalso;omega)))|refine sz_ (a5_ tdE hT hw1 hsx @jV) ?_|refine nv ?_|exact bq_|fail)
  all_goals first
   |omega
   |exact bQ rfl rfl ⟨⟨1,by omega,rfl⟩,rfl⟩
   |exact bQ rfl rfl ⟨⟨0,by omega,rfl⟩,rfl⟩
abbrev dT(k n a:Int)(t:ByteArray):D:= .agg [.leaf (.int .i64 k),.leaf (.int .i64 n),.leaf (.int .i64 a),.leaf (.string t)]
theorem dw(k n a:Int)(t:ByteArray):(dT k n a t).flat= [.leaf (.int .i64 k),.leaf (.int .i64 n),.leaf (.int .i64 a),.leaf (.string t)]:=by simp[dT,D.flat,D.iW]
theorem eF(k n a:Int)(t:ByteArray)(b:Bool):(dT k n a t).acs b= [.raw (.int .i64 k),.raw (.int .i64 n),.raw (.int .i64 a),.raw (.string t)]:=by rw[D.acs,dw];rfl
theorem eu(k n a:Int)(t:ByteArray):(dT k n a t).isAgg=true:=rfl
def IsT(W:Nat)(d:D):Prop:=∃(k n a:Int) (t:ByteArray),t.size≤W∧d=dT k n a t
theorem IsT.el{W:Nat}{q:List D}(h:∀d∈q,IsT W d):El 4 q:=fun d hd=>by
 obtain⟨k,n,a,t,_,rfl⟩:=h d hd;exact⟨by simp[dT,D.one,D.ones,Value.oneCell'],by simp[dT,D.sz,D.szs]⟩
theorem oG{P:Program}{t s b:Nat}{ty:TypeId}{k n a:Int}{z:ByteArray}{m:Int}{st:St}{post:AV→List Own→Prop}(h1:st.fr.getD t .any= .bptr b 0)(hb:st.boxes[b]? =some [.raw (.int .i64 k),.raw (.int .i64 n),.raw (.int .i64 a),.raw (.string z)])(h2:st.fr.getD s .any= .c false [.raw (.int .i64 m)])
 (hp:eH P (.cell t ty) true 4=true) (hq:post (.tup [(true,[.raw (.int .i64 k),.raw (.int .i64 n),.raw (.int .i64 a),.raw (.string z)]),(false,[.raw (.int .i64 m)])]) []):iG (Dy P (.cell t ty) (.tmp s) post) .ret st:=
 ⟨true,false,_,_,[],[],hq,rfl,rfl,by simp,trivial,hp,rfl,⟨b,_,h1,hb,⟨rfl,rfl,rfl,rfl,trivial⟩⟩,⟨_,h2,⟨rfl,trivial⟩⟩⟩
def Yx :IC:=(zd_ [zz_ 4 (.alloc [(.int .i64 0),(.int .i64 0),(.int .i64 0),(.string ⟨#[]⟩)]),zk_ 5 0] (zd_ [zw_ 10 1,zz_ 11 (.bld [(.int .i64 0),(.int .i64 0),(.int .i64 0),(.string ⟨#[]⟩)] [(2,1,(.t 10))]),zz_ 6 (.alloc [(.int .i64 0),(.int .i64 0),(.int .i64 0),(.string ⟨#[]⟩)]),⟨none,none,.store 4 (.t 6) (.t 11)⟩] (zd_ [zw_ 12 1,zw_ 7 12] (.seq (.block 0 (zd_ [zw_ 25 0,zw_ 26 1,zz_ 27 (.sidx (.t 25) (.t 26)),zq_ 28 205 27,zw_ 24 28] (.cond (.t 24) (.seq (.block 1 (.loop (.seq (zd_ [zw_ 29 7,zw_ 30 0,zf_ 31 true 30,zl_ 32 .lss 29 31,zw_ 33 32,zv_ 34 33 0,zv_ 35 33 7,zy_ 36 33 (.sidx (.t 34) (.t 35)),zy_ 37 33 (.call 205 [(.t 36)]),zv_ 38 33 37,zu_ 39 38 0,zu_ 40 38 7,zx_ 41 38 (.sidx (.t 39) (.t 40)),zx_ 42 38 (.call 206 [(.t 41)]),zy_ 43 33 (.pick (.t 38) (.k (.bool true)) (.t 42)),zh_ 44 33 43 false] (.cond (.t 44) .skip (.exit 1))) (.block 2 (.reg false [zw_ 45 7,zm_ 46 .add 45 1,zw_ 7 46]))))) (zd_ [zt_ 47 0 6,⟨none,none,.store 1 (.t 47) (.k (.int .i64 1))⟩] (zd_ [zw_ 48 0,zw_ 49 1,zw_ 50 7,zz_ 51 (.ssl (.t 48) (some (.t 49)) (some (.t 50))),zt_ 52 3 6,⟨none,none,.store 1 (.t 52) (.t 51)⟩] (zd_ [zw_ 53 7,zw_ 54 1,zl_ 55 .sub 53 54,zm_ 56 .gtr 55 8] (.cond (.t 56) (zd_ [zr_ 57 4 6,⟨none,none,.store 4 (.t 4) (.t 57)⟩,zk_ 5 0] .ret) .skip))))) (zd_ [zw_ 59 0,zw_ 60 1,zz_ 61 (.sidx (.t 59) (.t 60)),zq_ 62 206 61,zw_ 58 62] (.cond (.t 58) (.seq (.block 3 (.loop (.seq (zd_ [zw_ 63 7,zw_ 64 0,zf_ 65 true 64,zl_ 66 .lss 63 65,zw_ 67 66,zv_ 68 67 0,zv_ 69 67 7,zy_ 70 67 (.sidx (.t 68) (.t 69)),zy_ 71 67 (.call 206 [(.t 70)]),zh_ 72 67 71 false] (.cond (.t 72) .skip (.exit 3))) (.block 4 (.reg false [zw_ 73 7,zm_ 74 .add 73 1,zw_ 7 74]))))) (zd_ [zw_ 76 0,zw_ 77 1,zw_ 78 7,zz_ 79 (.ssl (.t 76) (some (.t 77)) (some (.t 78))),zq_ 80 182 79,zw_ 75 80,zz_ 81 (.ext 0 (.t 75)),zz_ 82 (.ext 1 (.t 75)),zw_ 8 81,zw_ 9 82] (zd_ [zt_ 83 0 6,⟨none,none,.store 1 (.t 83) (.k (.int .i64 2))⟩] (zd_ [zw_ 84 8,zt_ 85 1 6,⟨none,none,.store 1 (.t 85) (.t 84)⟩] (zd_ [zw_ 86 9,zz_ 87 (.not (.t 86)),zw_ 88 87,zu_ 89 88 8,zx_ 90 88 (.bin .gtr (.t 89) (.k (.int .i64 1000000000))),zg_ 91 88 true 90] (.cond (.t 91) (zd_ [zr_ 92 4 6,⟨none,none,.store 4 (.t 4) (.t 92)⟩,zk_ 5 0] .ret) .skip)))))) (zd_ [zw_ 94 0,zw_ 95 1,zz_ 96 (.sidx (.t 94) (.t 95)),zz_ 97 (.bin .eql (.t 96) (.k (.int .u8 34))),zw_ 93 97] (.cond (.t 93) (zd_ [zw_ 98 1,zm_ 99 .add 98 1,zw_ 7 99] (.seq (.block 5 (.loop (.seq (zd_ [zw_ 100 7,zw_ 101 0,zf_ 102 true 101,zl_ 103 .lss 100 102,zw_ 104 103,zv_ 105 104 0,zv_ 106 104 7,zy_ 107 104 (.sidx (.t 105) (.t 106)),zy_ 108 104 (.bin .neq (.t 107) (.k (.int .u8 34))),zh_ 109 104 108 false] (.cond (.t 109) .skip (.exit 5))) (.block 6 (.reg false [zw_ 110 7,zm_ 111 .add 110 1,zw_ 7 111]))))) (zd_ [zt_ 112 0 6,⟨none,none,.store 1 (.t 112) (.k (.int .i64 3))⟩] (zd_ [zw_ 113 0,zw_ 114 1,zm_ 115 .add 114 1,zw_ 116 7,zz_ 117 (.ssl (.t 113) (some (.t 115)) (some (.t 116))),zt_ 118 3 6,⟨none,none,.store 1 (.t 118) (.t 117)⟩] (.seq (zd_ [zw_ 119 7,zw_ 120 0,zf_ 121 true 120,zl_ 122 .eql 119 121,zw_ 123 122,zx_ 124 123 (.fad 3 (.t 6)),zx_ 125 123 (.load 1 false (.t 124)),zx_ 126 123 (.call 184 [(.t 125)]),zx_ 127 123 (.not (.t 126)),zg_ 128 123 true 127] (.cond (.t 128) (zd_ [zr_ 129 4 6,⟨none,none,.store 4 (.t 4) (.t 129)⟩,zk_ 5 0] .ret) .skip)) (.reg false [zw_ 130 7,zm_ 131 .add 130 1,zw_ 7 131])))))) (zd_ [zw_ 13 1,zw_ 14 0,zw_ 15 1,zp_ 16 207 14 15,zl_ 17 .add 13 16,zw_ 7 17] (zd_ [zt_ 18 0 6,⟨none,none,.store 1 (.t 18) (.k (.int .i64 4))⟩] (.reg false [zw_ 19 0,zw_ 20 1,zw_ 21 7,zz_ 22 (.ssl (.t 19) (some (.t 20)) (some (.t 21))),zt_ 23 3 6,⟨none,none,.store 1 (.t 23) (.t 22)⟩])))))))))) (zd_ [zr_ 132 4 6,zw_ 133 7,zw_ 134 1,zl_ 135 .sub 133 134,⟨none,none,.store 4 (.t 4) (.t 132)⟩,zw_ 5 135] .ret)))))
theorem VP :ak Tryz.prog (Tryz.f174.body.getD .skip)=some Yx:=by kernel_rfl
theorem ahD(s:ByteArray)(k:Nat)(hs:s.size≤120)(hk:k<s.size):bC Tryz.prog 174 [ls s,li (k:Int)] (fun r os'=>(∃(kd n a:Int) (z:ByteArray) (m:Nat),z.size≤s.size∧k+m≤s.size∧r= .tup [(true,[.raw (.int .i64 kd),.raw (.int .i64 n),.raw (.int .i64 a),.raw (.string z)]),(false,[.raw (.int .i64 (m:Int))])])∧os'= []):=by
 refine pK (fn:=Tryz.f174) (r:= .cell 4 171) (q:= .tmp 5) (hc:=VP) (h:= ?_);unfold Yx;refine zb_ ?_;change AWP _ _ _ (st0 136 _);refine sS tdX ?_;have hsx:=jW hk;have hwk:IntKind.i64.wrap ((k:Int)+1)=((k+1:Nat):Int):=dJ (by omega);have hkm:∀m:Nat,(k:Int)+(m:Int)=((k+m:Nat):Int):=fun m=>by omega
 have hks:∀m:Nat,((k+m:Nat):Int) - (k:Int)=(m:Int):=fun m=>by omega
 repeat' (first|(refine rg_ ?_;intro K hK)|(refine hq_ ?_;clear hK K)|refine ca_ ?_ ?_|refine gq_ ?_|(refine c2_ ?_ ?_<;>(intro hb hb';try(exfalso;omega)))|(refine cg_ ?_;first|(refine bn (h:=(Ip _)) (hK:= ?_);rintro _ _ ⟨⟨_|_,rfl⟩,rfl⟩)|(refine bn (h:=(Di _)) (hK:= ?_);rintro _ _ ⟨⟨_|_,rfl⟩,rfl⟩)|(refine bn (h:=(ahp s k (by omega) hk)) (hK:= ?_);rintro _ _ ⟨⟨m,hm,rfl⟩,rfl⟩))|refine sz_ (a6_ tdE hsx hwk hkm hks @jV) ?_|refine nv ?_|exact bq_|fail)
 ·refine aQ (X:=Nat) (fun z=> [.k,.k,.d,.d,.k,.d,.k,.v (.c false [.raw (.int .i64 ((z:Nat)))])]) (fun _=> []) (fun _ _=> [[.raw (.int .i64 0),.raw (.int .i64 0),.raw (.int .i64 0),.raw (.string ⟨#[]⟩)],[.raw (.int .i64 0),.raw (.int .i64 0),.raw (.int .i64 (k:Int)),.raw (.string ⟨#[]⟩)]]) (fun z=>k+1≤z∧z≤s.size) (fun z=>s.size - z) (k+1) ⟨Nat.le_refl _,by omega⟩ ?_ ?_
  ·simp[aG,aU,aC,aF,AV.fits,AC.fits,FB,aB]
  rintro z ⟨hz0,hz⟩;simp only[FB,aB];have hw3:IntKind.i64.wrap ((z:Int)+1)=((z+1:Nat):Int):=dJ (by omega);have hw2:IntKind.i64.wrap (((z+1:Nat):Int) - (k:Int))=((z+1 - k:Nat):Int):=by rw[jf (by omega) (by omega)];omega
  have tx:=xR (s.extract (k+1) z) (by simp only[ByteArray.size_extract];omega);by_cases hlt:z<s.size
  ·have hT:decide ((z:Int)<(s.size:Int))=true:=decide_eq_true (by omega);have hw1:IntKind.i64.wrap ((z:Int)+1)=((z+1:Nat):Int):=dJ (by omega);have hzn:((z:Int)==(s.size:Int))=false:=Fz (by omega);have hsz:=jW hlt
   repeat' (first|(refine rg_ ?_;intro K hK)|(refine hq_ ?_;clear hK K)|refine ca_ ?_ ?_|refine gq_ ?_|(refine c2_ ?_ ?_<;>(intro hb hb';try(exfalso;omega)))|(refine cg_ ?_;first|refine cT_ tx ?_)|refine sz_ (a9_ tdE hT hw1 hsz hzn @jV hw2 hw3 hwk) ?_|refine nv ?_|exact bq_|fail)
   all_goals first
    |omega
    |(simp only[ByteArray.size_extract];omega)
    | (refine aP (z+1) ?_ ⟨by omega,by omega⟩ (show s.size - (z+1)<s.size - z by omega)
       simp[aG,aU,aC,aF,AV.fits,AC.fits,FB,aB])
    |(first
   | (refine oG rfl rfl rfl (by kernel_rfl) ⟨⟨_,_,_,_,0, ?_, ?_,rfl⟩,rfl⟩
      ·simp only[ByteArray.size_extract,szD,a_,b_];omega
      ·omega)
   | (refine oG rfl rfl rfl (by kernel_rfl) ⟨⟨_,_,_,_,z+1 - k, ?_, ?_,rfl⟩,rfl⟩
      ·simp only[ByteArray.size_extract,szD,a_,b_];omega
      ·omega))
  ·have hT:decide ((z:Int)<(s.size:Int))=false:=decide_eq_false (by omega);obtain rfl:z=s.size:=by omega
   repeat' (first|(refine rg_ ?_;intro K hK)|(refine hq_ ?_;clear hK K)|refine ca_ ?_ ?_|refine gq_ ?_|(refine c2_ ?_ ?_<;>(intro hb hb';try(exfalso;omega)))|(refine cg_ ?_;first|refine cT_ tx ?_)|refine sz_ (a6_ tdE hT @jV hw2 hw3 hwk) ?_|refine nv ?_|exact bq_|fail)
   all_goals first
    |omega
    |(simp only[ByteArray.size_extract];omega)
    |(first
   | (refine oG rfl rfl rfl (by kernel_rfl) ⟨⟨_,_,_,_,0, ?_, ?_,rfl⟩,rfl⟩
      ·simp only[ByteArray.size_extract,szD,a_,b_];omega
      ·omega)
   | (refine oG rfl rfl rfl (by kernel_rfl) ⟨⟨_,_,_,_,s.size - k, ?_, ?_,rfl⟩,rfl⟩
      ·simp only[ByteArray.size_extract,szD,a_,b_];omega
      ·omega))
 ·first
   | (refine oG rfl rfl rfl (by kernel_rfl) ⟨⟨_,_,_,_,0, ?_, ?_,rfl⟩,rfl⟩
      ·simp only[ByteArray.size_extract,szD,a_,b_];omega
      ·omega)
   | (refine oG rfl rfl rfl (by kernel_rfl) ⟨⟨_,_,_,_,m, ?_, ?_,rfl⟩,rfl⟩
      ·simp only[ByteArray.size_extract,szD,a_,b_];omega
      ·omega)
 ·refine aQ (X:=Nat) (fun z=> [.k,.k,.d,.d,.k,.d,.k,.v (.c false [.raw (.int .i64 ((z:Nat)))])]) (fun _=> []) (fun _ _=> [[.raw (.int .i64 0),.raw (.int .i64 0),.raw (.int .i64 0),.raw (.string ⟨#[]⟩)],[.raw (.int .i64 0),.raw (.int .i64 0),.raw (.int .i64 (k:Int)),.raw (.string ⟨#[]⟩)]]) (fun z=>k≤z∧z≤s.size) (fun z=>s.size - z) (k) ⟨Nat.le_refl _,by omega⟩ ?_ ?_
  ·simp[aG,aU,aC,aF,AV.fits,AC.fits,FB,aB]
  rintro z ⟨hz0,hz⟩;simp only[FB,aB];have hw2:IntKind.i64.wrap ((z:Int) - (k:Int))=((z - k:Nat):Int):=by rw[jf (by omega) (by omega)];omega
  by_cases hlt:z<s.size
  ·have hT:decide ((z:Int)<(s.size:Int))=true:=decide_eq_true (by omega);have hw1:IntKind.i64.wrap ((z:Int)+1)=((z+1:Nat):Int):=dJ (by omega);have hzn:((z:Int)==(s.size:Int))=false:=Fz (by omega);have hsz:=jW hlt
   repeat' (first|(refine rg_ ?_;intro K hK)|(refine hq_ ?_;clear hK K)|refine ca_ ?_ ?_|refine gq_ ?_|(refine c2_ ?_ ?_<;>(intro hb hb';try(exfalso;omega)))|(refine cg_ ?_;first|(refine bn (h:=(Di _)) (hK:= ?_);rintro _ _ ⟨⟨_|_,rfl⟩,rfl⟩)|(refine bn (h:=(xJ _ (by simp only[ByteArray.size_extract];omega))) (hK:= ?_);rintro _ _ ⟨⟨pn,_|_,rfl⟩,rfl⟩))|refine sz_ (a7_ tdE hT hw1 hsz hzn @jV hw2) ?_|refine nv ?_|exact bq_|fail)
   all_goals first
    |omega
    |(simp only[ByteArray.size_extract];omega)
    | (refine aP (z+1) ?_ ⟨by omega,by omega⟩ (show s.size - (z+1)<s.size - z by omega)
       simp[aG,aU,aC,aF,AV.fits,AC.fits,FB,aB])
    |(first
   | (refine oG rfl rfl rfl (by kernel_rfl) ⟨⟨_,_,_,_,0, ?_, ?_,rfl⟩,rfl⟩
      ·simp only[ByteArray.size_extract,szD,a_,b_];omega
      ·omega)
   | (refine oG rfl rfl rfl (by kernel_rfl) ⟨⟨_,_,_,_,z - k, ?_, ?_,rfl⟩,rfl⟩
      ·simp only[ByteArray.size_extract,szD,a_,b_];omega
      ·omega))
  ·have hT:decide ((z:Int)<(s.size:Int))=false:=decide_eq_false (by omega);obtain rfl:z=s.size:=by omega
   repeat' (first|(refine rg_ ?_;intro K hK)|(refine hq_ ?_;clear hK K)|refine ca_ ?_ ?_|refine gq_ ?_|(refine c2_ ?_ ?_<;>(intro hb hb';try(exfalso;omega)))|(refine cg_ ?_;first|(refine bn (h:=(Di _)) (hK:= ?_);rintro _ _ ⟨⟨_|_,rfl⟩,rfl⟩)|(refine bn (h:=(xJ _ (by simp only[ByteArray.size_extract];omega))) (hK:= ?_);rintro _ _ ⟨⟨pn,_|_,rfl⟩,rfl⟩))|refine sz_ (a4_ tdE hT @jV hw2) ?_|refine nv ?_|exact bq_|fail)
   all_goals first
    |omega
    |(simp only[ByteArray.size_extract];omega)
    |(first
   | (refine oG rfl rfl rfl (by kernel_rfl) ⟨⟨_,_,_,_,0, ?_, ?_,rfl⟩,rfl⟩
      ·simp only[ByteArray.size_extract,szD,a_,b_];omega
      ·omega)
   | (refine oG rfl rfl rfl (by kernel_rfl) ⟨⟨_,_,_,_,s.size - k, ?_, ?_,rfl⟩,rfl⟩
      ·simp only[ByteArray.size_extract,szD,a_,b_];omega
      ·omega))
 ·refine aQ (X:=Nat) (fun z=> [.k,.k,.d,.d,.k,.d,.k,.v (.c false [.raw (.int .i64 ((z:Nat)))])]) (fun _=> []) (fun _ _=> [[.raw (.int .i64 0),.raw (.int .i64 0),.raw (.int .i64 0),.raw (.string ⟨#[]⟩)],[.raw (.int .i64 0),.raw (.int .i64 0),.raw (.int .i64 (k:Int)),.raw (.string ⟨#[]⟩)]]) (fun z=>k≤z∧z≤s.size) (fun z=>s.size - z) (k) ⟨Nat.le_refl _,by omega⟩ ?_ ?_
  ·simp[aG,aU,aC,aF,AV.fits,AC.fits,FB,aB]
  rintro z ⟨hz0,hz⟩;simp only[FB,aB];have hw2:IntKind.i64.wrap ((z:Int) - (k:Int))=((z - k:Nat):Int):=by rw[jf (by omega) (by omega)];omega
  by_cases hlt:z<s.size
  ·have hT:decide ((z:Int)<(s.size:Int))=true:=decide_eq_true (by omega);have hw1:IntKind.i64.wrap ((z:Int)+1)=((z+1:Nat):Int):=dJ (by omega);have hzn:((z:Int)==(s.size:Int))=false:=Fz (by omega);have hsz:=jW hlt
   repeat' (first|(refine rg_ ?_;intro K hK)|(refine hq_ ?_;clear hK K)|refine ca_ ?_ ?_|refine gq_ ?_|(refine c2_ ?_ ?_<;>(intro hb hb';try(exfalso;omega)))|(refine cg_ ?_;first|(refine bn (h:=(Ip _)) (hK:= ?_);rintro _ _ ⟨⟨_|_,rfl⟩,rfl⟩)|(refine bn (h:=(Di _)) (hK:= ?_);rintro _ _ ⟨⟨_|_,rfl⟩,rfl⟩))|refine sz_ (a7_ tdE hT hw1 hsz hzn @jV hw2) ?_|refine nv ?_|exact bq_|fail)
   all_goals first
    |omega
    |(simp only[ByteArray.size_extract];omega)
    | (refine aP (z+1) ?_ ⟨by omega,by omega⟩ (show s.size - (z+1)<s.size - z by omega)
       simp[aG,aU,aC,aF,AV.fits,AC.fits,FB,aB])
    |(first
   | (refine oG rfl rfl rfl (by kernel_rfl) ⟨⟨_,_,_,_,0, ?_, ?_,rfl⟩,rfl⟩
      ·simp only[ByteArray.size_extract,szD,a_,b_];omega
      ·omega)
   | (refine oG rfl rfl rfl (by kernel_rfl) ⟨⟨_,_,_,_,z - k, ?_, ?_,rfl⟩,rfl⟩
      ·simp only[ByteArray.size_extract,szD,a_,b_];omega
      ·omega))
  ·have hT:decide ((z:Int)<(s.size:Int))=false:=decide_eq_false (by omega);obtain rfl:z=s.size:=by omega
   repeat' (first|(refine rg_ ?_;intro K hK)|(refine hq_ ?_;clear hK K)|refine ca_ ?_ ?_|refine gq_ ?_|(refine c2_ ?_ ?_<;>(intro hb hb';try(exfalso;omega)))|(refine cg_ ?_;first|(refine bn (h:=(Ip _)) (hK:= ?_);rintro _ _ ⟨⟨_|_,rfl⟩,rfl⟩)|(refine bn (h:=(Di _)) (hK:= ?_);rintro _ _ ⟨⟨_|_,rfl⟩,rfl⟩))|refine sz_ (a4_ tdE hT @jV hw2) ?_|refine nv ?_|exact bq_|fail)
   all_goals first
    |omega
    |(simp only[ByteArray.size_extract];omega)
    |(first
   | (refine oG rfl rfl rfl (by kernel_rfl) ⟨⟨_,_,_,_,0, ?_, ?_,rfl⟩,rfl⟩
      ·simp only[ByteArray.size_extract,szD,a_,b_];omega
      ·omega)
   | (refine oG rfl rfl rfl (by kernel_rfl) ⟨⟨_,_,_,_,s.size - k, ?_, ?_,rfl⟩,rfl⟩
      ·simp only[ByteArray.size_extract,szD,a_,b_];omega
      ·omega))
end Go.Proofs.YtfjmoicellpnhaaGreat
