/-
  Texts joined: Psr3 Psr4.
-/
import Derived.Test.YtfjmoicellpnhaaGreatJN
set_option maxHeartbeats 8000000
set_option linter.unusedSimpArgs false
set_option linter.unusedVariables false
namespace Go.Proofs.YtfjmoicellpnhaaGreat
open Go.RowKit
open Nat renaming le_refl→a_,zero_le→c_
open List renaming getElem_mem→b_,mem_singleton→d_
attribute [local irreducible] sw sd sn
def rdC(q:List D)(i:Nat)(e b:Int):List AC:= [.sl true q,.raw (.int .i64 (i:Int)),.raw (.int .i64 e),.raw (.int .i64 b)]
theorem OD{q:List D}{i:Nat}{d:D}(h:i<q.length)(hd:q[i]=d):idx q (some (i:Int))=some d:=by
 have:=bU (fun d:D=>d) q h;rw[List.map_id']at this;rw[this,hd]
theorem adK{P:Program}{t s k e sz ver:Nat}{nw:Nw}{q:List D}{u:Value}{st:St}{post:AV→List Own→Prop}(h1:st.fr.getD t .any= .c false [.own k ver])(h2:st.fr.getD s .any= .c false [.raw u])(ho:st.owns[k]? =some ⟨q,e,sz,ver,nw⟩)(hn:nw.n=true)
 (hq:post (.tup [(false,[.sl true q]),(false,[.raw u])]) []):iG (Dy P (.tmp t) (.tmp s) post) .ret st:=
 ⟨false,false,[.sl true q],[.raw u],[],[],hq,rfl,rfl,by simp,trivial,rfl,rfl,⟨_,h1,⟨rfl,by simp,_,ho,rfl,rfl,Or.inl hn⟩,trivial⟩,⟨_,h2,⟨rfl,trivial⟩⟩⟩
def Yj :IC:=(zd_ [zz_ 2 (.mov (.k (.slice none 0 0))),zk_ 3 0] (.seq (zd_ [zw_ 8 0,zf_ 9 true 8,zm_ 10 .gtr 9 120] (.cond (.t 10) (zd_ [zz_ 11 (.brow true 171 4 0 false []),zw_ 2 11,zk_ 3 120] .ret) .skip)) (zd_ [zz_ 12 (.brow true 171 4 0 false []),zw_ 4 12] (zd_ [zk_ 5 0] (.seq (.block 0 (.loop (.seq (zd_ [zw_ 13 5,zw_ 14 0,zf_ 15 true 14,zl_ 16 .lss 13 15] (.cond (.t 16) .skip (.exit 0))) (.block 1 (.seq (zd_ [zw_ 17 0,zw_ 18 5,zz_ 19 (.sidx (.t 17) (.t 18)),zz_ 20 (.bin .eql (.t 19) (.k (.int .u8 32)))] (.cond (.t 20) (zd_ [zw_ 21 5,zm_ 22 .add 21 1,zw_ 5 22] (.exit 1)) .skip)) (zd_ [zw_ 24 0,zw_ 25 5,zp_ 26 174 24 25,zw_ 23 26,zz_ 27 (.ext 0 (.t 23)),zz_ 28 (.ext 1 (.t 23)),zz_ 6 (.alloc [(.int .i64 0),(.int .i64 0),(.int .i64 0),(.string ⟨#[]⟩)]),⟨none,none,.store 4 (.t 6) (.t 27)⟩,zw_ 7 28] (.seq (zd_ [zw_ 29 7,zm_ 30 .eql 29 0,zw_ 31 30,zu_ 32 31 4,zx_ 33 31 (.len false (.t 32)),zx_ 34 31 (.bin .eql (.t 33) (.k (.int .i64 60))),zg_ 35 31 true 34] (.cond (.t 35) (zd_ [zz_ 36 (.brow true 171 4 0 false []),zw_ 37 5,zw_ 2 36,zw_ 3 37] .ret) .skip)) (zd_ [zw_ 38 4,zr_ 39 4 6,zz_ 40 (.brow false 171 4 1 false [(.t 39)]),zz_ 41 (.app 171 4 (.t 38) (.t 40)),zw_ 4 41] (.reg false [zw_ 42 5,zw_ 43 7,zl_ 44 .add 42 43,zw_ 5 44]))))))))) (zd_ [zw_ 45 4,zw_ 2 45,zk_ 3 (-1)] .ret))))))
theorem Vz :ak Tryz.prog (Tryz.f134.body.getD .skip)=some Yj:=by kernel_rfl
theorem ahn(s:ByteArray)(hs:s.size≤1048576):bC Tryz.prog 134 [ls s] (fun r os'=>(∃(q:List D) (b:Int),q.length≤60∧(∀d∈q,IsT 120 d)∧r= .tup [(false,[.sl true q]),(false,[.raw (.int .i64 b)])])∧os'= []):=by
 refine pK (fn:=Tryz.f134) (r:= .tmp 2) (q:= .tmp 3) (hc:=Vz) (h:= ?_);unfold Yj;refine zb_ ?_;change AWP _ _ _ (st0 46 _);refine sS tdX ?_;by_cases hsz:s.size≤120
 ·have hT0:decide ((s.size:Int) > 120)=false:=decide_eq_false (by omega)
  repeat' (first|(refine rg_ ?_;intro K hK)|(refine hq_ ?_;clear hK K)|refine ca_ ?_ ?_|refine gq_ ?_|(refine c2_ ?_ ?_<;>(intro hb hb';try(exfalso;omega)))|refine sz_ (a7_ tdE @eF @eu @dw @rdC.eq_1 @dT.eq_1 hT0) ?_|refine nv ?_|exact bq_|fail)
  refine aQ (X:=Nat×Nat×List D) (fun z=> [.k,.d,.d,.d,.v (.c false [.own 0 z.2.1]),.v (.c false [.raw (.int .i64 ((z.1:Nat)))])]) (fun z=> [⟨z.2.2,171,4,z.2.1,true⟩]) (fun _ _=> []) (fun z=>z.1≤s.size∧z.2.2.length≤60∧∀d∈z.2.2,IsT 120 d) (fun z=>s.size - z.1) (0,0,[]) ⟨c_ _,c_ _,fun d hd=>by simp at hd⟩ ?_ ?_
  ·simp[aG,aU,aC,aF,AV.fits,AC.fits,FB,aB]
  rintro⟨i,v,q⟩ ⟨hi,hl,hq⟩;simp only at hi hl hq;simp only[FB,aB];by_cases hlt:i<s.size
  ·have hT:decide ((i:Int)<(s.size:Int))=true:=decide_eq_true (by omega);have hsx:=jW hlt;have hw:∀m:Nat,(i:Int)+(m:Int)=((i+m:Nat):Int):=fun m=>by omega
   have hw1:(i:Int)+1=((i+1:Nat):Int):=by omega
   repeat' (first|(refine rg_ ?_;intro K hK)|(refine hq_ ?_;clear hK K)|refine ca_ ?_ ?_|refine gq_ ?_|(refine c2_ ?_ ?_<;>(intro hb hb';try(exfalso;omega)))|(refine cg_ ?_;first|(refine bn (h:=(ahD s i (by omega) (by omega))) (hK:= ?_);rintro _ _ ⟨⟨kd,n,a,y,m,hy,hm,rfl⟩,rfl⟩))|refine sz_ (a3_ tdE @eF (a9_ @eu @dw @rdC.eq_1 @dT.eq_1 hT hsx hw hw1 @jV)) ?_|refine nv ?_|exact bq_|fail)
   all_goals first
    |omega
    |exact adK rfl rfl rfl rfl ⟨⟨_,_,c_ _,fun d hd=>by simp at hd,rfl⟩,rfl⟩
    | (refine aP (i+1,v,q) ?_ ⟨by simp only;omega,hl,hq⟩ (show s.size - (i+1)<s.size - i by omega)
       simp[aG,aU,aC,aF,AV.fits,AC.fits,FB,aB]
       done)
    |exact IsT.el hq
    |exact IsT.el (W:=120) (fun d hd=>by simp only[d_]at hd;subst hd;exact⟨_,_,_,_,by omega,rfl⟩)
    | (refine aP (i+m,v+1,q++ [dT kd n a y]) ?_ ⟨by simp only;omega,by simp only[List.length_append,List.length_singleton];omega, ?_⟩ (show s.size - (i+m)<s.size - i by omega)
       ·simp[aG,aU,aC,aF,AV.fits,AC.fits,FB,aB]
       ·intro d hd;rcases List.mem_append.1 hd with hd|hd
        ·exact hq d hd
        ·simp only[d_]at hd;subst hd;exact⟨_,_,_,_,by omega,rfl⟩)
  ·have hT:decide ((i:Int)<(s.size:Int))=false:=decide_eq_false (by omega)
   repeat' (first|(refine rg_ ?_;intro K hK)|(refine hq_ ?_;clear hK K)|refine ca_ ?_ ?_|refine gq_ ?_|(refine c2_ ?_ ?_<;>(intro hb hb';try(exfalso;omega)))|refine sz_ (a7_ tdE @eF @eu @dw @rdC.eq_1 @dT.eq_1 hT) ?_|refine nv ?_|exact bq_|fail)
   exact adK rfl rfl rfl rfl ⟨⟨_,_,hl,hq,rfl⟩,rfl⟩
 ·have hT0:decide ((s.size:Int) > 120)=true:=decide_eq_true (by omega)
  repeat' (first|(refine rg_ ?_;intro K hK)|(refine hq_ ?_;clear hK K)|refine ca_ ?_ ?_|refine gq_ ?_|(refine c2_ ?_ ?_<;>(intro hb hb';try(exfalso;omega)))|refine sz_ (a7_ tdE @eF @eu @dw @rdC.eq_1 @dT.eq_1 hT0) ?_|refine nv ?_|exact bq_|fail)
  exact adK rfl rfl rfl rfl ⟨⟨_,_,c_ _,fun d hd=>by simp at hd,rfl⟩,rfl⟩
def YD :IC:=(zd_ [zz_ 2 (.box (.t 0)),zj_ 4 false] (zd_ [zt_ 5 0 2,zs_ 6 1 5,zm_ 7 .eql 6 1,zw_ 8 7,zy_ 9 8 (.fad 3 (.t 2)),zy_ 10 8 (.load 1 false (.t 9)),zv_ 11 8 1,zy_ 12 8 (.bin .eql (.t 10) (.t 11)),zh_ 13 8 12 false,zw_ 4 13] .ret))
theorem VX :ak Tryz.prog (Tryz.f209.body.getD .skip)=some YD:=by kernel_rfl
theorem ada(k n a:Int)(t s:ByteArray):bC Tryz.prog 209 [dT k n a t,ls s] (fun r os'=>(∃b:Bool,r= .c false [.raw (.bool b)])∧os'= []):=by
 refine dS (fn:=Tryz.f209) (r:= .tmp 4) (hc:=VX) (h:= ?_);unfold YD;refine zb_ ?_;change AWP _ _ _ (st0 14 _);refine sS tdX ?_
 repeat' (first|(refine rg_ ?_;intro K hK)|(refine hq_ ?_;clear hK K)|refine ca_ ?_ ?_|refine gq_ ?_|(refine c2_ ?_ ?_<;>(intro hb hb';try(exfalso;omega)))|refine sz_ (a6_ tdE @eF @eu @dw @rdC.eq_1 @dT.eq_1) ?_|refine nv ?_|exact bq_|fail)
 all_goals exact bQ rfl rfl ⟨⟨_,rfl⟩,rfl⟩
def YC :IC:=(zd_ [zz_ 2 (.box (.t 0)),zj_ 4 false] (zd_ [zt_ 5 0 2,zs_ 6 1 5,zm_ 7 .eql 6 4,zw_ 8 7,zy_ 9 8 (.fad 3 (.t 2)),zy_ 10 8 (.load 1 false (.t 9)),zv_ 11 8 1,zy_ 12 8 (.bin .eql (.t 10) (.t 11)),zh_ 13 8 12 false,zw_ 4 13] .ret))
theorem VW :ak Tryz.prog (Tryz.f208.body.getD .skip)=some YC:=by kernel_rfl
theorem Vp(k n a:Int)(t s:ByteArray):bC Tryz.prog 208 [dT k n a t,ls s] (fun r os'=>(∃b:Bool,r= .c false [.raw (.bool b)])∧os'= []):=by
 refine dS (fn:=Tryz.f208) (r:= .tmp 4) (hc:=VW) (h:= ?_);unfold YC;refine zb_ ?_;change AWP _ _ _ (st0 14 _);refine sS tdX ?_
 repeat' (first|(refine rg_ ?_;intro K hK)|(refine hq_ ?_;clear hK K)|refine ca_ ?_ ?_|refine gq_ ?_|(refine c2_ ?_ ?_<;>(intro hb hb';try(exfalso;omega)))|refine sz_ (a6_ tdE @eF @eu @dw @rdC.eq_1 @dT.eq_1) ?_|refine nv ?_|exact bq_|fail)
 all_goals exact bQ rfl rfl ⟨⟨_,rfl⟩,rfl⟩
def YF :IC:=(zd_ [zz_ 2 (.alloc [(.int .i64 0),(.int .i64 0),(.string ⟨#[]⟩),(.slice none 0 0)])] (.seq (zd_ [zw_ 3 0,zi_ 4 3,zt_ 5 3 4,zs_ 6 1 5,zm_ 7 .lss 6 0] (.cond (.t 7) (zd_ [zw_ 8 0,zw_ 9 0,zi_ 10 9,zt_ 11 2 10,zs_ 12 1 11,zi_ 13 8,zt_ 14 3 13,⟨none,none,.store 1 (.t 14) (.t 12)⟩] (.seq (.reg true [zw_ 15 0,zi_ 16 15,zt_ 17 1 16,zs_ 18 1 17,zw_ 19 0,zi_ 20 19,zt_ 21 0 20,zs_ 22 1 21,zf_ 23 false 22,zl_ 24 .lss 18 23]) (.cond (.t 24) (.reg true [zw_ 25 0,zw_ 26 0,zi_ 27 26,zt_ 28 0 27,zs_ 29 1 28,zw_ 30 0,zi_ 31 30,zt_ 32 1 31,zs_ 33 1 32,ze_ 34 4 29 33,zt_ 35 2 34,zs_ 36 1 35,zi_ 37 25,zt_ 38 3 37,⟨none,none,.store 1 (.t 38) (.t 36)⟩]) .skip))) .skip)) (zd_ [zz_ 39 (.bld [(.int .i64 0),(.int .i64 0),(.string ⟨#[]⟩),(.slice none 0 0)] []),⟨none,none,.store 4 (.t 2) (.t 39)⟩] .ret)))
theorem V3 :ak Tryz.prog (Tryz.f136.body.getD .skip)=some YF:=by kernel_rfl
theorem kZ{P:Program}{t ty k:Nat}{kd n:Int}{z:ByteArray}{st:St}{c':List AC}{post:AV→List Own→List AC→Prop}(h1:st.fr.getD t .any= .bptr k 0)(h2:st.boxes[k]? =some [.raw (.int .i64 kd),.raw (.int .i64 n),.raw (.string z),.raw (.slice none 0 0)])(h0:st.boxes[0]? =some c')
 (hp:eH P (.cell t ty) true 4=true) (hq:post (.c true [.raw (.int .i64 kd),.raw (.int .i64 n),.raw (.string z),.sl true []]) [] c') (hc:c'.all AC.cur=true:=by rfl):iG (sH P (.cell t ty) post) .ret st:=
 ⟨true,_,[],_,[],hq,rfl,h0,hc,by simp,trivial,hp,k,_,h1,h2,⟨rfl,rfl,rfl,⟨rfl,rfl,rfl⟩,trivial⟩⟩
theorem bG{P:Program}{t ty k:Nat}{kd n:Int}{z:ByteArray}{l:List D}{st:St}{c':List AC}{post:AV→List Own→List AC→Prop}(h1:st.fr.getD t .any= .bptr k 0)(h2:st.boxes[k]? =some [.raw (.int .i64 kd),.raw (.int .i64 n),.raw (.string z),.sl true l])(h0:st.boxes[0]? =some c')
 (hp:eH P (.cell t ty) true 4=true) (hq:post (.c true [.raw (.int .i64 kd),.raw (.int .i64 n),.raw (.string z),.sl true l]) [] c') (hc:c'.all AC.cur=true:=by rfl):iG (sH P (.cell t ty) post) .ret st:=
 ⟨true,_,[],_,[],hq,rfl,h0,hc,by simp,trivial,hp,k,_,h1,h2,⟨rfl,rfl,rfl,⟨rfl,rfl,rfl⟩,trivial⟩⟩
theorem kC{P:Program}{t:Nat}{u:Value}{st:St}{c':List AC}{post:AV→List Own→List AC→Prop}(h1:st.fr.getD t .any= .c false [.raw u])(h0:st.boxes[0]? =some c')(hq:post (.c false [.raw u]) [] c')(hc:c'.all AC.cur=true:=by rfl):iG (sH P (.tmp t) post) .ret st:=
 ⟨false,_,[],_,[],hq,rfl,h0,hc,by simp,trivial,rfl,_,h1,⟨rfl,trivial⟩⟩
theorem oJ(q:List D)(i:Nat)(e b:Int)(hi:i≤q.length)(hl:q.length≤60)(hq:∀d∈q,IsT 120 d):aZ Tryz.prog 136 [] (rdC q i e b) (fun r os' c'=>(pU 0 r)∧os'= []∧∃b':Int,c'=rdC q i e b'):=by
 refine fG (fn:=Tryz.f136) (r:= .cell 2 45) (hc:=V3) (h:= ?_);unfold YF rdC;refine zb_ ?_;change dH _ _ _ _ (stS 40 _ _ _);refine sS tdX ?_;by_cases hlt:i<q.length
 ·have hT:decide ((i:Int)<(q.length:Int))=true:=decide_eq_true (by omega);obtain⟨tk,tn,ta,tt,htt,hqi⟩:=hq _ (b_ hlt);have hg:idx q (some (i:Int))=some (dT tk tn ta tt):=OD hlt hqi
  repeat' (first|(refine hq_ ?_;clear hK K)|refine ca_ ?_ ?_|refine sz_ (a8_ tdE @eF @eu @dw @rdC.eq_1 @dT.eq_1 hT hg) ?_|refine nv ?_|(refine rD ?_;intro K hK)|(refine c2_ ?_ ?_<;>(intro hb hb';try(exfalso;omega)))|exact bq_|fail)
  all_goals first
   |exact IsT.el hq
   |(refine kZ rfl rfl rfl (by kernel_rfl) ⟨⟨_,_,_,_,IsE.cu 0 _ _ _ (a_ _),rfl⟩,rfl,_,rfl⟩)
 ·have hT:decide ((i:Int)<(q.length:Int))=false:=decide_eq_false (by omega)
  repeat' (first|(refine hq_ ?_;clear hK K)|refine ca_ ?_ ?_|refine sz_ (a7_ tdE @eF @eu @dw @rdC.eq_1 @dT.eq_1 hT) ?_|refine nv ?_|(refine rD ?_;intro K hK)|(refine c2_ ?_ ?_<;>(intro hb hb';try(exfalso;omega)))|exact bq_|fail)
  all_goals(refine kZ rfl rfl rfl (by kernel_rfl) ⟨⟨_,_,_,_,IsE.cu 0 _ _ _ (a_ _),rfl⟩,rfl,_,rfl⟩)
def Yo :IC:=(zd_ [zj_ 4 false] (.seq (.regN true [] [zw_ 5 0,zi_ 6 5,zt_ 7 3 6,zs_ 8 1 7,zm_ 9 .lss 8 0,zw_ 10 9,zv_ 11 10 0,zy_ 12 10 (.nck (.t 11)),zy_ 13 10 (.fad 1 (.t 12)),zy_ 14 10 (.load 1 false (.t 13)),zv_ 15 10 0,zy_ 16 10 (.nck (.t 15)),zy_ 17 10 (.fad 0 (.t 16)),zy_ 18 10 (.load 1 false (.t 17)),zy_ 19 10 (.len false (.t 18)),zy_ 20 10 (.bin .lss (.t 14) (.t 19)),zh_ 21 10 20 false,zw_ 22 21,zv_ 23 22 0,zy_ 24 22 (.nck (.t 23)),zy_ 25 22 (.fad 0 (.t 24)),zy_ 26 22 (.load 1 false (.t 25)),zv_ 27 22 0,zy_ 28 22 (.nck (.t 27)),zy_ 29 22 (.fad 1 (.t 28)),zy_ 30 22 (.load 1 false (.t 29)),zy_ 31 22 (.iad 4 (.t 26) (.t 30)),zy_ 32 22 (.load 4 true (.t 31)),zv_ 33 22 1,zy_ 34 22 (.call 208 [(.t 32),(.t 33)]),zv_ 35 22 34,zu_ 36 35 0,zx_ 37 35 (.nck (.t 36)),zx_ 38 35 (.fad 0 (.t 37)),zx_ 39 35 (.load 1 false (.t 38)),zu_ 40 35 0,zx_ 41 35 (.nck (.t 40)),zx_ 42 35 (.fad 1 (.t 41)),zx_ 43 35 (.load 1 false (.t 42)),zx_ 44 35 (.iad 4 (.t 39) (.t 43)),zx_ 45 35 (.load 4 true (.t 44)),zu_ 46 35 1,zx_ 47 35 (.call 209 [(.t 45),(.t 46)]),zy_ 48 22 (.pick (.t 35) (.k (.bool true)) (.t 47)),zh_ 49 22 48 false,zw_ 4 49]) .ret))
theorem VF :ak Tryz.prog (Tryz.f175.body.getD .skip)=some Yo:=by kernel_rfl
theorem zZ(q:List D)(i:Nat)(e b:Int)(s:ByteArray)(hi:i≤q.length)(hl:q.length≤60)(hq:∀d∈q,IsT 120 d):aZ Tryz.prog 175 [ls s] (rdC q i e b) (fun r os' c'=>(r= .c false [.raw (.bool false)]∨(i<q.length∧r= .c false [.raw (.bool true)]))∧os'= []∧c'=rdC q i e b):=by
 refine fG (fn:=Tryz.f175) (r:= .tmp 4) (hc:=VF) (h:= ?_);unfold Yo rdC;refine zb_ ?_;change dH _ _ _ _ (stS 50 _ _ _);refine sS tdX ?_;by_cases hb0:b<0
 ·have hB:decide (b<0)=true:=decide_eq_true hb0;by_cases hlt:i<q.length
  ·have hT:decide ((i:Int)<(q.length:Int))=true:=decide_eq_true (by omega);have hT2:decide ((i:Int)≥(q.length:Int))=false:=decide_eq_false (by omega);obtain⟨tk,tn,ta,tt,htt,hqi⟩:=hq _ (b_ hlt);have hg:idx q (some (i:Int))=some (dT tk tn ta tt):=OD hlt hqi
   repeat' (first|(refine rg_ ?_;intro K hK)|((first|(with_reducible refine aA 9 true bg ?_)|(refine aA 9 true (by simp[dU,St.ev]) ?_));intro K hK)|refine nN ?_|(refine hq_ ?_;clear hK K)|refine ca_ ?_ ?_|refine gq_ ?_|(refine c2_ ?_ ?_<;>(intro hb hb';try(exfalso;omega)))|((with_reducible refine iY ?_);first|(refine dW ?_ ?_;rfl)|(refine dX ?_ ?_;(rfl;refine gnF ?_)))|(refine cg_ ?_;first|(refine bn (h:=(Vp _ _ _ _ _)) (hK:= ?_);rintro _ _ ⟨⟨_|_,rfl⟩,rfl⟩)|(refine bn (h:=(ada _ _ _ _ _)) (hK:= ?_);rintro _ _ ⟨⟨_|_,rfl⟩,rfl⟩))|((with_reducible refine fB ?_);first|(refine wY (h:=(Vp _ _ _ _ _)) (hne:=⟨_,[],⟨⟨true,rfl⟩,rfl⟩,rfl⟩) (hr:= ?_);rintro _ _ ⟨⟨_|_,rfl⟩,rfl⟩)|(refine wY (h:=(ada _ _ _ _ _)) (hne:=⟨_,[],⟨⟨true,rfl⟩,rfl⟩,rfl⟩) (hr:= ?_);rintro _ _ ⟨⟨_|_,rfl⟩,rfl⟩))|refine sz_ (a9_ tdE @eF @eu @dw @rdC.eq_1 @dT.eq_1 hB hT hg) ?_|refine nv ?_|exact bq_|fail)
   all_goals first
    |exact IsT.el hq
    |(first|exact kC rfl rfl ⟨Or.inl rfl,rfl,rfl⟩|exact kC rfl rfl ⟨Or.inr ⟨hlt,rfl⟩,rfl,rfl⟩)
  ·have hT:decide ((i:Int)<(q.length:Int))=false:=decide_eq_false (by omega);have hT2:decide ((i:Int)≥(q.length:Int))=true:=decide_eq_true (by omega)
   repeat' (first|(refine rg_ ?_;intro K hK)|((first|(with_reducible refine aA 9 true bg ?_)|(refine aA 9 true (by simp[dU,St.ev]) ?_));intro K hK)|refine nN ?_|(refine hq_ ?_;clear hK K)|refine ca_ ?_ ?_|refine gq_ ?_|(refine c2_ ?_ ?_<;>(intro hb hb';try(exfalso;omega)))|((with_reducible refine iY ?_);first|(refine dW ?_ ?_;rfl)|(refine dX ?_ ?_;(rfl;refine gnF ?_)))|refine sz_ (a8_ tdE @eF @eu @dw @rdC.eq_1 @dT.eq_1 hB hT) ?_|refine nv ?_|exact bq_|fail)
   all_goals(first|exact kC rfl rfl ⟨Or.inl rfl,rfl,rfl⟩|exact kC rfl rfl ⟨Or.inr ⟨hlt,rfl⟩,rfl,rfl⟩)
 ·have hB:decide (b<0)=false:=decide_eq_false hb0
  repeat' (first|(refine rg_ ?_;intro K hK)|((first|(with_reducible refine aA 9 true bg ?_)|(refine aA 9 true (by simp[dU,St.ev]) ?_));intro K hK)|refine nN ?_|(refine hq_ ?_;clear hK K)|refine ca_ ?_ ?_|refine gq_ ?_|(refine c2_ ?_ ?_<;>(intro hb hb';try(exfalso;omega)))|((with_reducible refine iY ?_);first|(refine dW ?_ ?_;rfl)|(refine dX ?_ ?_;(rfl;refine gnF ?_)))|refine sz_ (a7_ tdE @eF @eu @dw @rdC.eq_1 @dT.eq_1 hB) ?_|refine nv ?_|exact bq_|fail)
  all_goals(first|exact kC rfl rfl ⟨Or.inl rfl,rfl,rfl⟩|exact kC rfl rfl ⟨Or.inr ⟨hlt,rfl⟩,rfl,rfl⟩)
theorem jT(i:Nat):(i:Int)+1=((i+1:Nat):Int):=by omega
theorem Na{st:St}{c':List AC}{post:AV→List Own→List AC→Prop}{e:Exit}(he:e= .ret∨e= .normal)(h0:st.boxes[0]? =some c')(hq:post (.tup []) [] c')(hc:c'.all AC.cur=true:=by rfl):iG (aeT post) e st:=by
 rcases he with rfl|rfl<;>exact⟨c',hq,h0,hc⟩
def Yl :IC:=(.seq (zd_ [zw_ 4 0,zw_ 5 1,zp_ 6 175 4 5,zz_ 7 (.not (.t 6))] (.cond (.t 7) (zd_ [zw_ 8 0,zq_ 9 136 8] .ret) .skip)) (.reg false [zw_ 10 0,zw_ 11 0,zi_ 12 11,zt_ 13 1 12,zs_ 14 1 13,zm_ 15 .add 14 1,zi_ 16 10,zt_ 17 1 16,⟨none,none,.store 1 (.t 17) (.t 15)⟩]))
theorem VB :ak Tryz.prog (Tryz.f177.body.getD .skip)=some Yl:=by kernel_rfl
theorem xu(q:List D)(i:Nat)(e b:Int)(s:ByteArray)(hi:i≤q.length)(hl:q.length≤60)(hq:∀d∈q,IsT 120 d):aZ Tryz.prog 177 [ls s] (rdC q i e b) (fun r os' c'=>(r= .tup [])∧os'= []∧∃(j:Nat) (b':Int),i≤j∧j≤q.length∧c'=rdC q j e b'):=by
 refine aez (fn:=Tryz.f177) (by kernel_rfl) (by kernel_rfl) (by kernel_rfl) VB ?_;unfold Yl rdC;refine zb_ ?_;change dH _ _ _ _ (stS 18 _ _ _);refine sS tdX ?_
 repeat' (first|(refine rg_ ?_;intro K hK)|(refine hq_ ?_;clear hK K)|refine ca_ ?_ ?_|(refine cg_ ?_;first|(refine ay true (h:=(zZ q _ _ _ _ (by omega) hl hq)) (hK:= ?_);rintro _ _ _ ⟨rfl|⟨hx,rfl⟩,rfl,rfl⟩)|(refine ay true (h:=(oJ q _ _ _ (by omega) hl hq)) (hK:= ?_);rintro _ _ _ ⟨⟨fk,fn,ft,fq,hE,rfl⟩,rfl,b2,rfl⟩))|refine sz_ (a7_ tdE @eF @eu @dw @rdC.eq_1 @dT.eq_1 @jT) ?_|refine nv ?_|(refine c2_ ?_ ?_<;>(intro hb hb';try(exfalso;omega)))|exact bq_|fail)
 all_goals first
  |exact Na (Or.inl rfl) rfl ⟨rfl,rfl,i,_,a_ _,hi,rfl⟩
  |exact Na (Or.inr rfl) rfl ⟨rfl,rfl,i+1,_,by omega,by omega,rfl⟩
def Yy :IC:=(zd_ [zz_ 2 (.mov (.k (.string ⟨#[]⟩)))] (.seq (.seq (.regN true [] [zw_ 3 0,zi_ 4 3,zt_ 5 3 4,zs_ 6 1 5,zm_ 7 .geq 6 0,zw_ 8 7,zu_ 9 8 0,zx_ 10 8 (.nck (.t 9)),zx_ 11 8 (.fad 1 (.t 10)),zx_ 12 8 (.load 1 false (.t 11)),zu_ 13 8 0,zx_ 14 8 (.nck (.t 13)),zx_ 15 8 (.fad 0 (.t 14)),zx_ 16 8 (.load 1 false (.t 15)),zx_ 17 8 (.len false (.t 16)),zx_ 18 8 (.bin .geq (.t 12) (.t 17)),zg_ 19 8 true 18,zw_ 20 19,zu_ 21 20 0,zx_ 22 20 (.nck (.t 21)),zx_ 23 20 (.fad 0 (.t 22)),zx_ 24 20 (.load 1 false (.t 23)),zu_ 25 20 0,zx_ 26 20 (.nck (.t 25)),zx_ 27 20 (.fad 1 (.t 26)),zx_ 28 20 (.load 1 false (.t 27)),zx_ 29 20 (.iad 4 (.t 24) (.t 28)),zx_ 30 20 (.fad 0 (.t 29)),zx_ 31 20 (.load 1 false (.t 30)),zx_ 32 20 (.bin .neq (.t 31) (.k (.int .i64 1))),zg_ 33 20 true 32,zw_ 34 33,zu_ 35 34 0,zx_ 36 34 (.nck (.t 35)),zx_ 37 34 (.fad 0 (.t 36)),zx_ 38 34 (.load 1 false (.t 37)),zu_ 39 34 0,zx_ 40 34 (.nck (.t 39)),zx_ 41 34 (.fad 1 (.t 40)),zx_ 42 34 (.load 1 false (.t 41)),zx_ 43 34 (.iad 4 (.t 38) (.t 42)),zx_ 44 34 (.fad 3 (.t 43)),zx_ 45 34 (.load 1 false (.t 44)),zx_ 46 34 (.call 133 [(.t 45)]),zx_ 47 34 (.not (.t 46)),zg_ 48 34 true 47]) (.cond (.t 48) (zd_ [zw_ 49 0,zq_ 50 136 49] (zd_ [zz_ 2 (.mov (.k (.string ⟨#[]⟩)))] .ret)) .skip)) (zd_ [zw_ 51 0,zw_ 52 0,zi_ 53 52,zt_ 54 1 53,zs_ 55 1 54,zm_ 56 .add 55 1,zi_ 57 51,zt_ 58 1 57,⟨none,none,.store 1 (.t 58) (.t 56)⟩] (.seq (.reg true [zw_ 59 0,zi_ 60 59,zt_ 61 0 60,zs_ 62 1 61,zw_ 63 0,zi_ 64 63,zt_ 65 1 64,zs_ 66 1 65,zm_ 67 .sub 66 1,ze_ 68 4 62 67,zt_ 69 3 68,zs_ 70 1 69,zw_ 2 70]) .ret))))
theorem VQ :ak Tryz.prog (Tryz.f176.body.getD .skip)=some Yy:=by kernel_rfl
theorem ahF(q:List D)(i:Nat)(e b:Int)(hi:i≤q.length)(hl:q.length≤60)(hq:∀d∈q,IsT 120 d):aZ Tryz.prog 176 [] (rdC q i e b) (fun r os' c'=>(∃z:ByteArray,z.size≤120∧r= .c false [.raw (.string z)])∧os'= []∧∃(j:Nat) (b':Int),i≤j∧j≤q.length∧c'=rdC q j e b'):=by
 refine fG (fn:=Tryz.f176) (r:= .tmp 2) (hc:=VQ) (h:= ?_);unfold Yy rdC;refine zb_ ?_;change dH _ _ _ _ (stS 71 _ _ _);refine sS tdX ?_;by_cases hb0:b≥0
 ·have hB:decide (b≥0)=true:=decide_eq_true hb0
  repeat' (first|(refine rg_ ?_;intro K hK)|((first|(with_reducible refine aA 9 true bg ?_)|(refine aA 9 true (by simp[dU,St.ev]) ?_));intro K hK)|refine nN ?_|(refine hq_ ?_;clear hK K)|refine ca_ ?_ ?_|refine gq_ ?_|(refine c2_ ?_ ?_<;>(intro hb hb';try(exfalso;omega)))|((with_reducible refine iY ?_);first|(refine dW ?_ ?_;rfl)|(refine dX ?_ ?_;(rfl;refine gnF ?_)))|(refine cg_ ?_;first|(refine ay true (h:=(oJ q _ _ _ (by omega) hl hq)) (hK:= ?_);rintro _ _ _ ⟨⟨fk,fn,ft,fq,hE,rfl⟩,rfl,b2,rfl⟩))|refine sz_ (a7_ tdE @eF @eu @dw @rdC.eq_1 @dT.eq_1 hB) ?_|refine nv ?_|exact bq_|fail)
  all_goals(first
   |exact kC rfl rfl ⟨⟨_,by first|omega|decide,rfl⟩,rfl,i,_,a_ _,hi,rfl⟩
   |exact kC rfl rfl ⟨⟨_,by first|omega|decide,rfl⟩,rfl,i+1,_,by omega,by omega,rfl⟩)
 ·have hB:decide (b≥0)=false:=decide_eq_false hb0;by_cases hlt:i<q.length
  ·have hT:decide ((i:Int)<(q.length:Int))=true:=decide_eq_true (by omega);have hT2:decide ((i:Int)≥(q.length:Int))=false:=decide_eq_false (by omega);obtain⟨tk,tn,ta,tt,htt,hqi⟩:=hq _ (b_ hlt);have hg:idx q (some (i:Int))=some (dT tk tn ta tt):=OD hlt hqi;have nm:=og tt (by omega);have hg2:idx q (some (((i+1:Nat):Int) - 1))=some (dT tk tn ta tt):=by rw[show((i+1:Nat):Int) - 1=(i:Int) by omega];exact hg
   cases hnm:nmB tt
   all_goals rw[hnm]at nm
   all_goals(repeat' (first|((with_reducible refine iC ?_);intro K hK)|((first|((with_reducible refine mg false ?_ ?_);rfl)|((with_reducible refine mg true ?_ ?_);rfl));intro K hK)|((first|(with_reducible refine aA 9 true bg ?_)|(refine aA 9 true (by simp[dU,St.ev]) ?_));intro K hK)|refine nN ?_|((with_reducible refine hK _ ?_);clear hK K)|(with_reducible refine fC ?_ ?_)|((with_reducible refine gi ?_);first|(refine eX ?_ ?_;rfl)|(refine eY ?_ ?_;(rfl;refine gF ?_))|((with_reducible refine gS rfl ?_ ?_)<;>(intro hb hb';try(exfalso;omega))))|((with_reducible refine gxi ?_);first|(refine o8 ?_ ?_;rfl)|(refine o9 ?_ ?_;(rfl;refine gxF ?_))|((with_reducible refine gxS rfl ?_ ?_)<;>(intro hb hb';try(exfalso;omega))))|((with_reducible refine iY ?_);first|(refine dW ?_ ?_;rfl)|(refine dX ?_ ?_;(rfl;refine gnF ?_)))|((with_reducible refine oK ?_);first|refine bT (hc:=nm) (h:= ?_)|(refine ay true (h:=(oJ q _ _ _ (by omega) hl hq)) (hK:= ?_);rintro _ _ _ ⟨⟨fk,fn,ft,fq,hE,rfl⟩,rfl,b2,rfl⟩))|((with_reducible refine fB ?_);first|refine BI (hc:=nm) (h:= ?_))|((with_reducible refine jg ?_);refine ss (aiX tdE (aiX @eF (aiX @eu (aiX @dw (aiX @rdC.eq_1 (aiX @dT.eq_1 (aiX hB (aiX hT2 (aiX hg (aiX hg2 @jT)))))))))) ?_)|((with_reducible refine Xo ?_);refine sx (aiX tdE (aiX @eF (aiX @eu (aiX @dw (aiX @rdC.eq_1 (aiX @dT.eq_1 (aiX hB (aiX hT2 (aiX hg (aiX hg2 @jT)))))))))) ?_)|refine nv ?_|(with_reducible (refine cS rfl ?_ ?_)<;>(intro hb hb';try(exfalso;omega)))|exact wG|exact jm))
   all_goals first
    |exact IsT.el hq
    |(first
    |exact kC rfl rfl ⟨⟨_,by first|omega|decide,rfl⟩,rfl,i,_,a_ _,hi,rfl⟩
    |exact kC rfl rfl ⟨⟨_,by first|omega|decide,rfl⟩,rfl,i+1,_,by omega,by omega,rfl⟩)
  ·have hT:decide ((i:Int)<(q.length:Int))=false:=decide_eq_false (by omega);have hT2:decide ((i:Int)≥(q.length:Int))=true:=decide_eq_true (by omega)
   repeat' (first|(refine rg_ ?_;intro K hK)|((first|(with_reducible refine aA 9 true bg ?_)|(refine aA 9 true (by simp[dU,St.ev]) ?_));intro K hK)|refine nN ?_|(refine hq_ ?_;clear hK K)|refine ca_ ?_ ?_|refine gq_ ?_|(refine c2_ ?_ ?_<;>(intro hb hb';try(exfalso;omega)))|((with_reducible refine iY ?_);first|(refine dW ?_ ?_;rfl)|(refine dX ?_ ?_;(rfl;refine gnF ?_)))|(refine cg_ ?_;first|(refine ay true (h:=(oJ q _ _ _ (by omega) hl hq)) (hK:= ?_);rintro _ _ _ ⟨⟨fk,fn,ft,fq,hE,rfl⟩,rfl,b2,rfl⟩))|refine sz_ (a8_ tdE @eF @eu @dw @rdC.eq_1 @dT.eq_1 hB hT2) ?_|refine nv ?_|exact bq_|fail)
   all_goals(first
    |exact kC rfl rfl ⟨⟨_,by first|omega|decide,rfl⟩,rfl,i,_,a_ _,hi,rfl⟩
    |exact kC rfl rfl ⟨⟨_,by first|omega|decide,rfl⟩,rfl,i+1,_,by omega,by omega,rfl⟩)
end Go.Proofs.YtfjmoicellpnhaaGreat
