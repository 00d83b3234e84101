/-
  Texts joined: Draw4 Draw5 Draw6 Cmp1 Cmp2.
-/
import Derived.Test.YtfjmoicellpnhaaGreatJM
import Derived.Test.YtfjmoicellpnhaaGreatJE
import Derived.Test.YtfjmoicellpnhaaGreatJQ
import Derived.Test.YtfjmoicellpnhaaGreatJS
import Derived.Test.YtfjmoicellpnhaaGreatJF
set_option maxHeartbeats 16000000
set_option maxRecDepth 8000
set_option linter.unusedSimpArgs false
set_option linter.unusedVariables false
namespace Go.Proofs.YtfjmoicellpnhaaGreat
open Go.RowKit
section
open List renaming map_cons→a_,length_nil→b_,length_map→c_,length_cons→e_,mem_of_mem_take→f_,mem_of_mem_drop→g_,set_cons_zero→h_,set_cons_succ→i_,size_toArray→k_,mem_append→l_,mem_cons→m_,map_nil→n_
open Nat renaming mul_le_mul_right→d_,succ_mul→j_,zero_le→o_
attribute [local irreducible] sw sd sn
def oV(W:Nat)(x:GCell):Prop:=(-1000000 - (W:Int)≤x.id∧x.id≤1000000+(W:Int))∧(0≤x.ver∧x.ver≤1000000+(W:Int))∧(-1000000 - (W:Int)≤x.kind∧x.kind≤1000000+(W:Int))∧(-1000000 - (W:Int)≤x.n∧x.n≤1000000+(W:Int))∧x.name.size≤1000∧x.code.size≤W
theorem oV.mono{W W':Nat}{x:GCell}(h:oV W x)(hW:W≤W'):oV W' x:=by
 unfold oV at h⊢;omega
abbrev dC(i v k:Int)(m c:ByteArray)(n:Int):D:= .agg [.leaf (.int .i64 i),.leaf (.int .i64 v),.leaf (.int .i64 k),.leaf (.string m),.leaf (.string c),.leaf (.int .i64 n)]
theorem Pe(i v k:Int)(m c:ByteArray)(n:Int):(dC i v k m c n).flat= [.leaf (.int .i64 i),.leaf (.int .i64 v),.leaf (.int .i64 k),.leaf (.string m),.leaf (.string c),.leaf (.int .i64 n)]:=by simp[dC,D.flat,D.iW]
theorem aem(i v k:Int)(m c:ByteArray)(n:Int)(b:Bool):(dC i v k m c n).acs b= [.raw (.int .i64 i),.raw (.int .i64 v),.raw (.int .i64 k),.raw (.string m),.raw (.string c),.raw (.int .i64 n)]:=by rw[D.acs,Pe];rfl
theorem ael(i v k:Int)(m c:ByteArray)(n:Int):(dC i v k m c n).isAgg=true:=rfl
theorem tdC :type_of% (aiX tdE (aiX @dC.eq_1 (aiX @aem (aiX @ael @Pe)))):=aiX tdE (aiX @dC.eq_1 (aiX @aem (aiX @ael @Pe)))
section
variable{P:Program}{l:List UInt8}{t ty b:Nat}{W:Nat}{st:St}{i h:Int}{id v k n:Int}{m c:ByteArray}{post:AV→List Own→List AC→Prop}
theorem af2(h1:st.fr.getD t .any= .bptr b 0)(h2:st.boxes[b]? =some [.raw (.int .i64 id),.raw (.int .i64 v),.raw (.int .i64 k),.raw (.string m),.raw (.string c),.raw (.int .i64 n)])(h0:st.boxes[0]? =some (bK l i h))(hp:eH P (.cell t ty) true 6=true)
 (hq:post (.c true [.raw (.int .i64 id),.raw (.int .i64 v),.raw (.int .i64 k),.raw (.string m),.raw (.string c),.raw (.int .i64 n)]) [] (bK l i h)):iG (sH P (.cell t ty) post) .ret st:=
 ⟨true,_,[],_,[],hq,rfl,h0,rfl,by simp,trivial,hp,b,_,h1,h2,⟨rfl,rfl,rfl,rfl,rfl,rfl,trivial⟩⟩
end
def Rz :IC:=(zd_ [zz_ 4 (.alloc [(.int .i64 0),(.int .i64 0),(.int .i64 0),(.string ⟨#[]⟩),(.string ⟨#[]⟩),(.int .i64 0)])] (zd_ [zw_ 6 1,zw_ 7 0,zn_ 8 76 7 3,zz_ 9 (.bin .add (.k (.int .i64 1)) (.t 8)),zw_ 10 0,zz_ 11 (.brow false 3 1 8 false [(.k (.int .i64 1)),(.k (.int .i64 2)),(.k (.int .i64 2)),(.k (.int .i64 2)),(.k (.int .i64 2)),(.k (.int .i64 3)),(.k (.int .i64 4)),(.k (.int .i64 4))]),zp_ 12 112 10 11,zw_ 13 0,zz_ 14 (.brow false 9 1 5 false [(.k (.string ⟨#[97]⟩)),(.k (.string ⟨#[98]⟩)),(.k (.string ⟨#[99]⟩)),(.k (.string ⟨#[100]⟩)),(.k (.string ⟨#[101]⟩))]),zp_ 15 89 13 14,zz_ 16 (.bld [(.int .i64 0),(.int .i64 0),(.int .i64 0),(.string ⟨#[]⟩),(.string ⟨#[]⟩),(.int .i64 0)] [(0,1,(.t 6)),(1,1,(.t 9)),(2,1,(.t 12)),(3,1,(.t 15))]),zz_ 5 (.alloc [(.int .i64 0),(.int .i64 0),(.int .i64 0),(.string ⟨#[]⟩),(.string ⟨#[]⟩),(.int .i64 0)]),⟨none,none,.store 6 (.t 5) (.t 16)⟩] (.seq (zd_ [zt_ 17 2 5,zs_ 18 1 17] (.block 0 (zd_ [zm_ 20 .eql 18 1,zw_ 19 20] (.cond (.t 19) (zd_ [zt_ 21 3 5,⟨none,none,.store 1 (.t 21) (.k (.string ⟨#[]⟩))⟩] (.reg false [zw_ 22 0,zz_ 23 (.brow false 9 1 3 false [(.k (.string ⟨#[65,32,104,101,97,100,105,110,103]⟩)),(.k (.string ⟨#[]⟩)),(.k (.string ⟨#[115,101,101,32,34,97,34,32,97,110,100,32,98]⟩))]),zp_ 24 89 22 23,zt_ 25 4 5,⟨none,none,.store 1 (.t 25) (.t 24)⟩])) (zd_ [zm_ 27 .eql 18 2,zw_ 26 27] (.cond (.t 26) (.reg false [zw_ 28 0,zq_ 29 113 28,zt_ 30 4 5,⟨none,none,.store 1 (.t 30) (.t 29)⟩]) (zd_ [zm_ 32 .eql 18 3,zw_ 31 32] (.cond (.t 31) (.reg false [zw_ 33 0,zn_ 34 76 33 9,zt_ 35 5 5,⟨none,none,.store 1 (.t 35) (.t 34)⟩]) (zd_ [zm_ 37 .eql 18 4,zw_ 36 37] (.cond (.t 36) (.reg false [zw_ 38 0,zq_ 39 114 38,zt_ 40 4 5,⟨none,none,.store 1 (.t 40) (.t 39)⟩]) .skip)))))))))) (zd_ [zr_ 41 6 5,⟨none,none,.store 6 (.t 4) (.t 41)⟩] .ret))))
theorem Ry :ak Tryz.prog (Tryz.f103.body.getD .skip)=some Rz:=by kernel_rfl
theorem aam{k:Int}(h:k∈[(1:Int),2,2,2,2,3,4,4]):0≤k∧k≤4:=by
 simp only[m_,List.not_mem_nil,or_false]at h;omega
theorem aeX(l:List UInt8)(i h:Int)(id:Int)(h0:0≤i)(h1:i≤l.length)(hl:l.length≤1048576)(hd: -1000000≤id∧id≤1000000):aZ Tryz.prog 103 [li id] (bK l i h) (fun r os' c'=>(∃x:GCell,oV 1000 x∧x.id=id∧r= .c true [.raw (.int .i64 x.id),.raw (.int .i64 x.ver),.raw (.int .i64 x.kind),.raw (.string x.name),.raw (.string x.code),.raw (.int .i64 x.n)])∧os'= []∧qx l c'):=by
 refine fG (fn:=Tryz.f103) (r:= .cell 4 85) (hc:=Ry) (h:= ?_);unfold Rz bK;refine zb_ ?_;change dH _ _ _ _ (stS 42 _ _ _);refine sS tdX ?_;have hwv:∀x:Int,0≤x→x<3→IntKind.i64.wrap (1+x)=1+x:=fun x a b=>jf (by omega) (by omega)
 repeat' (first|(refine rg_ ?_;intro K hK)|(refine hq_ ?_;clear hK K)|refine ca_ ?_ ?_|(refine cg_ ?_;first|(refine ay true (h:=(aX l _ _ (3) ‹_› ‹_› hl (by decide))) (hK:= ?_);rintro _ _ _ ⟨⟨xv,hxv0,hxv1,hxv2,rfl⟩,rfl,i,h,hi0,hi1,rfl⟩)|(refine ay true (h:=(aX l _ _ (9) ‹_› ‹_› hl (by decide))) (hK:= ?_);rintro _ _ _ ⟨⟨xn,hxn0,hxn1,hxn2,rfl⟩,rfl,i,h,hi0,hi1,rfl⟩)|(refine ay true (h:=(ZT l _ _ [1,2,2,2,2,3,4,4] ‹_› ‹_› hl (by decide) (by decide))) (hK:= ?_);rintro _ _ _ ⟨⟨pk,hpk,rfl⟩,rfl,i,h,hi0,hi1,rfl⟩)|(refine ay true (h:=(mG l _ _ 8 [(⟨#[97]⟩:ByteArray),(⟨#[98]⟩:ByteArray),(⟨#[99]⟩:ByteArray),(⟨#[100]⟩:ByteArray),(⟨#[101]⟩:ByteArray)] ‹_› ‹_› hl (by simp) (by simp) (by decide))) (hK:= ?_);rintro _ _ _ ⟨⟨nm,hnm,rfl⟩,rfl,i,h,hi0,hi1,rfl⟩)|(refine ay true (h:=(mG l _ _ 64 [(⟨#[65,32,104,101,97,100,105,110,103]⟩:ByteArray),(⟨#[]⟩:ByteArray),(⟨#[115,101,101,32,34,97,34,32,97,110,100,32,98]⟩:ByteArray)] ‹_› ‹_› hl (by simp) (by simp) (by decide))) (hK:= ?_);rintro _ _ _ ⟨⟨s,hs,rfl⟩,rfl,i,h,hi0,hi1,rfl⟩)|(refine ay true (h:=(aeV l _ _ ‹_› ‹_› hl)) (hK:= ?_);rintro _ _ _ ⟨⟨s,hs,rfl⟩,rfl,i,h,hi0,hi1,rfl⟩)|(refine ay true (h:=(aeW l _ _ ‹_› ‹_› hl)) (hK:= ?_);rintro _ _ _ ⟨⟨s,hs,rfl⟩,rfl,i,h,hi0,hi1,rfl⟩))|refine sz_ tdC ?_|refine nv ?_|(refine c2_ ?_ ?_<;>(intro hb hb';try(exfalso;omega)))|exact bq_|fail)
 all_goals first
  |omega
  | (have hkm:=aam hpk
     refine af2 rfl rfl rfl (by kernel_rfl) ⟨⟨⟨_,_,_,_,_,_⟩, ?cb,rfl,rfl⟩,rfl,_,_, ‹_›, ‹_›,rfl⟩
     case cb=>exact⟨⟨by simp only;omega,by simp only;omega⟩,⟨by simp only;omega,by simp only;omega⟩,⟨by simp only;omega,by simp only;omega⟩,⟨by simp only;omega,by simp only;omega⟩,by simp only[szD,k_,b_];omega,by simp only[szD,k_,b_];omega⟩)
theorem ahE{k:Nat}(hk:k<8):∃z:ByteArray,z.size≤8∧([.leaf (.string ⟨#[97]⟩),.leaf (.string ⟨#[98]⟩),.leaf (.string ⟨#[99]⟩),.leaf (.string ⟨#[100]⟩),.leaf (.string ⟨#[101]⟩),.leaf (.string ⟨#[97,49]⟩),.leaf (.string ⟨#[98,49]⟩),.leaf (.string ⟨#[99,49]⟩)]:List D)[k]? =some (.leaf (.string z)):=by
 match k,hk with
 |0,_=>exact⟨_,by decide,rfl⟩
 |1,_=>exact⟨_,by decide,rfl⟩
 |2,_=>exact⟨_,by decide,rfl⟩
 |3,_=>exact⟨_,by decide,rfl⟩
 |4,_=>exact⟨_,by decide,rfl⟩
 |5,_=>exact⟨_,by decide,rfl⟩
 |6,_=>exact⟨_,by decide,rfl⟩
 |7,_=>exact⟨_,by decide,rfl⟩
theorem JO{W:Nat}{x:GCell}{z:ByteArray}(h:oV W x)(hz:z.size≤8):oV W ⟨x.id,x.ver,x.kind,z,x.code,x.n⟩:=⟨h.1,h.2.1,h.2.2.1,h.2.2.2.1,Nat.le_trans hz (by decide),h.2.2.2.2.2⟩
theorem Zk{p:GCell→Prop}{cs:List GCell}{x:GCell}{j:Nat}(h:∀y∈cs,p y)(hx:p x):∀y∈cs.take j++x::cs.drop j,p y:=fun y hy=>by
 rcases l_.1 hy with hy|hy
 ·exact h y (f_ hy)
 ·rcases m_.1 hy with rfl|hy
  ·exact hx
  ·exact h y (g_ hy)
theorem aco{cs:List GCell}{x:GCell}{j:Nat}:(cs.map GCell.toD).take j++ [x.toD]++((cs.map GCell.toD).take cs.length).drop j=(cs.take j++x::cs.drop j).map GCell.toD:=by
 rw[List.take_of_length_le (l:=cs.map GCell.toD) (i:=cs.length) (by simp)];simp[List.map_take,List.map_drop]
theorem YV{s k:Nat}{l:List D}(h:El s l):El s (l.take k):=fun d hd=>h d (f_ hd)
theorem agf{s k:Nat}{l:List D}(h:El s l):El s (l.drop k):=fun d hd=>h d (g_ hd)
theorem aiu(cs:List GCell):jR (cs.map GCell.toD):=lS (g:=GCell.toD) (fun x w f cs h=>(GCell.opened.1 h).1) cs
theorem aiv{P:Program}{t ty b k v e s:Nat}{nw:Nw}{st:St}{l:List UInt8}{i h:Int}{cs:List GCell}{post:AV→List Own→List AC→Prop}(h1:st.fr.getD t .any= .bptr b 0)(h2:st.boxes[b]? =some [.own k v])(ho:st.owns[k]? =some ⟨cs.map GCell.toD,e,s,v,nw⟩)
 (h0:st.boxes[0]? =some (bK l i h)) (hp:eH P (.cell t ty) true 1=true) (hq:post (.c true [.own 0 0]) [⟨cs.map GCell.toD,e,s,0,⟨true,true⟩⟩] (bK l i h)):iG (sH P (.cell t ty) post) .ret st:=
 ⟨true,[.own 0 0],[⟨cs.map GCell.toD,e,s,0,⟨true,true⟩⟩],bK l i h,[k],hq,rfl,h0,rfl,by simp,⟨⟨_,ho,rfl,aiu cs⟩,trivial⟩,hp,b,_,h1,h2,⟨rfl,rfl,_,ho,rfl⟩,trivial⟩
theorem Yd{cs:List GCell}{x:GCell}{j:Nat}:(cs.take j++x::cs.drop j).length=cs.length+1:=by
 simp;omega
def Ru :IC:=(zd_ [zz_ 4 (.alloc [(.slice none 0 0)])] (zd_ [zz_ 10 (.bld [(.slice none 0 0)] []),zz_ 5 (.alloc [(.slice none 0 0)]),⟨none,none,.store 1 (.t 5) (.t 10)⟩] (zd_ [zw_ 11 0,zw_ 12 1,zm_ 13 .add 12 1,zp_ 14 76 11 13,zw_ 6 14] (.seq (zd_ [zk_ 7 0] (.block 0 (.loop (.seq (zd_ [zw_ 15 7,zw_ 16 6,zl_ 17 .lss 15 16] (.cond (.t 17) .skip (.exit 0))) (.seq (.block 1 (zd_ [zw_ 20 0,zw_ 21 7,zm_ 22 .add 21 1,zp_ 23 103 20 22,zz_ 8 (.alloc [(.int .i64 0),(.int .i64 0),(.int .i64 0),(.string ⟨#[]⟩),(.string ⟨#[]⟩),(.int .i64 0)]),⟨none,none,.store 6 (.t 8) (.t 23)⟩] (.seq (zd_ [zt_ 24 2 8,zs_ 25 1 24,zm_ 26 .neq 25 1,zw_ 27 26,zv_ 28 27 0,zy_ 29 27 (.call 83 [(.t 28),(.k (.int .i64 10))]),zy_ 30 27 (.not (.t 29)),zh_ 31 27 30 false] (.cond (.t 31) (.reg false [zz_ 32 (.brow true 9 1 8 false [(.k (.string ⟨#[97]⟩)),(.k (.string ⟨#[98]⟩)),(.k (.string ⟨#[99]⟩)),(.k (.string ⟨#[100]⟩)),(.k (.string ⟨#[101]⟩)),(.k (.string ⟨#[97,49]⟩)),(.k (.string ⟨#[98,49]⟩)),(.k (.string ⟨#[99,49]⟩))]),zw_ 33 7,ze_ 34 1 32 33,zs_ 35 1 34,zt_ 36 3 8,⟨none,none,.store 1 (.t 36) (.t 35)⟩]) .skip)) (zd_ [zw_ 37 0,zt_ 38 0 5,zs_ 39 1 38,zf_ 40 false 39,zm_ 41 .add 40 1,zp_ 42 76 37 41,zw_ 9 42] (.reg true [zz_ 43 (.brow true 85 6 0 false []),zt_ 44 0 5,zs_ 45 1 44,zw_ 46 9,zz_ 47 (.lsl 6 (.t 45) none (some (.t 46))),zz_ 48 (.app 85 6 (.t 43) (.t 47)),zr_ 49 6 8,zz_ 50 (.brow false 85 6 1 false [(.t 49)]),zz_ 51 (.app 85 6 (.t 48) (.t 50)),zt_ 52 0 5,zs_ 53 1 52,zw_ 54 9,zz_ 55 (.lsl 6 (.t 53) (some (.t 54)) none),zz_ 56 (.app 85 6 (.t 51) (.t 55)),zt_ 57 0 5,⟨none,none,.store 1 (.t 57) (.t 56)⟩]))))) (.reg false [zw_ 18 7,zm_ 19 .add 18 1,zw_ 7 19])))))) (zd_ [zr_ 58 1 5,⟨none,none,.store 1 (.t 4) (.t 58)⟩] .ret)))))
theorem Rt :ak Tryz.prog (Tryz.f88.body.getD .skip)=some Ru:=by kernel_rfl
theorem WW(l:List UInt8)(i h:Int)(m:Nat)(h0:0≤i)(h1:i≤l.length)(hl:l.length≤1048576)(hm:m≤8):aZ Tryz.prog 88 [li (m:Int)] (bK l i h) (fun r os' c'=>(∃cs:List GCell,cs.length≤m∧(∀x∈cs,oV 1000 x)∧r= .c true [.own 0 0]∧os'= [⟨cs.map GCell.toD,85,6,0,⟨true,true⟩⟩])∧qx l c'):=by
 refine fG (fn:=Tryz.f88) (r:= .cell 4 82) (hc:=Rt) (h:= ?_);unfold Ru bK;refine zb_ ?_;change dH _ _ _ _ (stS 59 _ _ _);refine sS tdX ?_;have hw0:IntKind.i64.wrap ((m:Int)+1)=((m+1:Nat):Int):=dJ (by omega)
 repeat' (first|(refine hq_ ?_;clear hK K)|refine ca_ ?_ ?_|refine gq_ ?_|(refine c2_ ?_ ?_<;>(intro hb hb';try(exfalso;omega)))|(refine cg_ ?_;first|(refine ay true (h:=(oO l _ _ (m+1) ‹_› ‹_› hl (by omega) (by omega))) (hK:= ?_);rintro _ _ _ ⟨⟨n,hn,rfl⟩,rfl,i,h,hi0,hi1,rfl⟩))|refine sz_ (a3_ tdC @jV hw0) ?_|refine nv ?_|(refine rD ?_;intro K hK)|(exact GCell.el _)|(exact GCell.el [⟨_,_,_,_,_,_⟩])|exact bq_|fail)
 refine JX 2 0 85 6 false rfl rfl ?_;simp only[St.Ky,List.nil_append,b_,h_,i_,List.getD_cons_zero,List.getD_cons_succ];refine WL (X:=Nat×Nat×List GCell×Int×Int) (fun z=> [.k,.d,.d,.d,.k,.k,.k,.v (.c false [.raw (.int .i64 ((z.1:Nat)))])]) (fun z=> [⟨z.2.2.1.map GCell.toD,85,6,z.2.1,⟨true,false⟩⟩]) (fun z _=> [bK l z.2.2.2.1 z.2.2.2.2,[.raw (.slice none 0 0)],[.own 0 z.2.1]])
  (fun z=>z.1≤n∧z.2.2.1.length=z.1∧(∀x∈z.2.2.1,oV 1000 x)∧0≤z.2.2.2.1∧z.2.2.2.1≤l.length) (fun z=>n - z.1) (0,0,[],i,h) [0] ⟨o_ _,rfl,fun x hx=>by simp at hx,hi0,hi1⟩ rfl (fun z=>by simp) ?_ ?_
 ·simp[wW,yG,Bj,uH,AV.ren,AC.ren,AV.fits,AC.fits,FB,aB,bK]
 rintro⟨k,v,cs,i,h⟩ ⟨hk,hcs,hall,hi0,hi1⟩;simp only at hk hcs hall hi0 hi1;simp only[FB,aB];by_cases hlt:k<n
 ·have hT:decide ((k:Int)<(n:Int))=true:=decide_eq_true (by omega);have hw1:IntKind.i64.wrap ((k:Int)+1)=((k+1:Nat):Int):=dJ (by omega);have hw2:IntKind.i64.wrap ((cs.length:Int)+1)=((cs.length+1:Nat):Int):=dJ (by omega);obtain⟨z,hz,hg⟩:=ahE (k:=k) (by omega);refine FC 0 rfl ?_;simp only[St.rel,AV.rel,AC.rel,fA,a_,n_,and_self,if_true,bK,List.getElem?_cons_zero,h_,i_]
  repeat' (first|(refine hq_ ?_;clear hK K)|refine ca_ ?_ ?_|refine gq_ ?_|(refine c2_ ?_ ?_<;>(intro hb hb';try(exfalso;omega)))|(refine cg_ ?_;first|(refine ay true (h:=(aeX l _ _ _ ‹_› ‹_› hl (by constructor<;>omega))) (hK:= ?_);rintro _ _ _ ⟨⟨x,hx,hxi,rfl⟩,rfl,i,h,hi0,hi1,rfl⟩)|(refine ay true (h:=(lV l _ _ (10) ‹_› ‹_› hl (by decide))) (hK:= ?_);rintro _ _ _ ⟨⟨b,rfl⟩,rfl,i,h,hi0,hi1,rfl⟩)|(refine ay true (h:=(oO l _ _ (cs.length+1) ‹_› ‹_› hl (by omega) (by omega))) (hK:= ?_);rintro _ _ _ ⟨⟨j,hj,rfl⟩,rfl,i,h,hi0,hi1,rfl⟩))|refine sz_ (a6_ tdC @jV hT hw1 hw2 hg) ?_|refine nv ?_|(refine rD ?_;intro K hK)|(exact GCell.el _)|(exact GCell.el [⟨_,_,_,_,_,_⟩])|exact bq_|fail)
  all_goals first
   |exact YV (GCell.el _)
   |exact agf (YV (GCell.el _))
   | (refine Oa (k+1,3,cs.take j++(⟨x.id,x.ver,x.kind,x.name,x.code,x.n⟩:GCell)::cs.drop j,i,h) [1] ⟨by simp, ?fr,⟨⟨aco (x:=⟨x.id,x.ver,x.kind,x.name,x.code,x.n⟩),rfl,rfl,rfl,rfl⟩,trivial⟩, ?bx, ?ft⟩ ⟨by simp only;omega,by simp only;rw[Yd,hcs], ?al,by assumption,by assumption⟩ (show n - (k+1)<n - k by omega)
      case fr=>simp[yG,AV.ren,AC.ren,AV.fits,AC.fits,FB,aB]
      case bx=>simp[uH,AC.ren,FB,bK]
      case ft=>simp[AC.fits,FB,bK]
      case al=>exact Zk hall (by first|exact hx|exact JO hx hz))
   | (refine Oa (k+1,3,cs.take j++(⟨x.id,x.ver,x.kind,z,x.code,x.n⟩:GCell)::cs.drop j,i,h) [2] ⟨by simp, ?fr,⟨⟨aco (x:=⟨x.id,x.ver,x.kind,z,x.code,x.n⟩),rfl,rfl,rfl,rfl⟩,trivial⟩, ?bx, ?ft⟩ ⟨by simp only;omega,by simp only;rw[Yd,hcs], ?al,by assumption,by assumption⟩ (show n - (k+1)<n - k by omega)
      case fr=>simp[yG,AV.ren,AC.ren,AV.fits,AC.fits,FB,aB]
      case bx=>simp[uH,AC.ren,FB,bK]
      case ft=>simp[AC.fits,FB,bK]
      case al=>exact Zk hall (by first|exact hx|exact JO hx hz))
 ·have hT:decide ((k:Int)<(n:Int))=false:=decide_eq_false (by omega)
  repeat' (first|(refine hq_ ?_;clear hK K)|refine ca_ ?_ ?_|refine gq_ ?_|(refine c2_ ?_ ?_<;>(intro hb hb';try(exfalso;omega)))|refine sz_ (a3_ tdC @jV hT) ?_|refine nv ?_|(refine rD ?_;intro K hK)|(exact GCell.el _)|(exact GCell.el [⟨_,_,_,_,_,_⟩])|exact bq_|fail)
  exact aiv rfl rfl rfl rfl (by kernel_rfl) ⟨⟨cs,by omega,hall,rfl,rfl⟩,i,h,hi0,hi1,rfl⟩
end
section
open List renaming map_cons→a_,length_nil→b_,length_map→c_,length_cons→e_,mem_of_mem_take→f_,mem_of_mem_drop→g_,set_cons_zero→h_,set_cons_succ→i_,size_toArray→k_,mem_append→l_,mem_cons→m_,map_nil→n_
open Nat renaming mul_le_mul_right→d_,succ_mul→j_,zero_le→o_
theorem ac2{l:List GCell}{k:Nat}{c:GCell}:(l.map GCell.toD).set k c.toD=(l.set k c).map GCell.toD:=by rw[List.map_set]
theorem ads{cs:List GCell}{k:Nat}(h:k<cs.length):(cs.map GCell.toD)[k]? =some (cs[k]).toD:=by rw[List.getElem?_map,List.getElem?_eq_getElem h];rfl
theorem Uu{p:GCell→Prop}{cs:List GCell}{x:GCell}{k:Nat}(h:∀y∈cs,p y)(hx:p x):∀y∈cs.set k x,p y:=fun y hy=>(List.mem_or_eq_of_mem_set hy).elim (h y) (fun e=>e▸hx)
theorem abB{cs:List GCell}{k:Nat}{h:k<cs.length}(v:ByteArray):(cs.map GCell.toD).set k (D.patch (cs[k]).toD 3 (.leaf (.string v)))=(cs.set k {cs[k]with name:=v}).map GCell.toD:=by
 rw[← ac2];rfl
theorem abC{cs:List GCell}{k:Nat}{h:k<cs.length}(v:ByteArray):(cs.map GCell.toD).set k (D.patch (cs[k]).toD 4 (.leaf (.string v)))=(cs.set k {cs[k]with code:=v}).map GCell.toD:=by
 rw[← ac2];rfl
end
section
open List renaming map_cons→a_,length_nil→b_,length_map→c_,length_cons→e_,mem_of_mem_take→f_,mem_of_mem_drop→g_,set_cons_zero→h_,set_cons_succ→i_,size_toArray→k_,mem_append→l_,mem_cons→m_,map_nil→n_
open Nat renaming mul_le_mul_right→d_,succ_mul→j_,zero_le→o_
attribute [local irreducible] sw sd sn
theorem Oy{n:Int}(h0: -9000000000000000000≤n)(h1:n≤9000000000000000000):(li n).wf:=by
 show(decide (IntKind.i64.min≤n) && decide (n≤IntKind.i64.max))=true;rw[show IntKind.i64.min= -9223372036854775808 from rfl,show IntKind.i64.max=9223372036854775807 from rfl];simp;omega
theorem Nl{W:Nat}(hW:W≤1000000){x:GCell}(h:oV W x):x.toD.wf:=by
 obtain⟨h1,h2,h3,h4,h5,h6⟩:=h;refine⟨Oy (by omega) (by omega),Oy (by omega) (by omega),Oy (by omega) (by omega), ?_, ?_,Oy (by omega) (by omega),trivial⟩
 ·show x.name.size≤maxLen;unfold maxLen;omega
 ·show x.code.size≤maxLen;unfold maxLen;omega
theorem JL{W:Nat}(hW:W≤1000000):∀{cs:List GCell},(∀x∈cs,oV W x)→D.wfs (cs.map GCell.toD)
 | [],_=>trivial
 |x::cs,h=>⟨Nl hW (h x (by simp)),JL hW fun y hy=>h y (by simp[hy])⟩
theorem ac3{w:World}{x:GNb}{v:Value}(h:Rd w x.toD v):∃fp u,v= .agg #[u]∧Sl w (x.cells.map GCell.toD) fp u∧R w x.toD fp [u]:=by
 obtain⟨fp,cs,rfl,h2⟩:=U8 x.aW h;have h3:=h2;obtain⟨u,g,rfl,rfl,h1⟩:=GNb.opened.1 h3;exact⟨_,u,rfl,h1,h2⟩
theorem abh(x:GNb)(hw:D.wfs (x.cells.map GCell.toD)):aI Tryz.prog 104 [x.toD] (.c false [.raw (.bool (qH x.cells))]):=sU fun w vs hr=>by
 obtain⟨v,rfl,h1⟩:=Qr hr;obtain⟨fp,a,rfl,hS,_⟩:=ac3 h1;exact xQ x.cells fp a w hS hw
theorem UO(x:GCell)(hw:x.toD.wf):aI Tryz.prog 115 [x.toD] (.c false [.raw (.bool (lH x))]):=sU fun w vs hr=>by
 obtain⟨v,rfl,h1⟩:=Qr hr;obtain⟨fp,cs,rfl,h2⟩:=U8 (GCell.aW x) h1;obtain⟨_,rfl⟩:=GCell.opened.1 h2;exact uZ x hw w
theorem UN{x:GCell}(h:lH x=true):x.code.size≤120:=by
 unfold lH jC at h;simp only[Bool.and_eq_true,decide_eq_true_eq]at h;omega
theorem ahU{k n:Int}{t:ByteArray}{l:List D}{e:GExpr}(h:dE k n t l=e.toD):k=e.kind∧n=e.n∧t=e.text∧l=e.args.map GExpr.toD:=by
 rw[GExpr.aN]at h;simp only[dE,li,ls,D.agg.injEq,List.cons.injEq,D.leaf.injEq,Value.int.injEq,Value.string.injEq,D.sl.injEq,true_and,and_true]at h;exact⟨h.1,h.2.1,h.2.2.1,h.2.2.2⟩
theorem ZX(s:ByteArray)(hs:s.size≤1048576):bC Tryz.prog 117 [ls s] (fun r os'=>(∃(e:GExpr) (b:Int),e.toD.wt≤20000∧r= .tup [(true,[.raw (.int .i64 e.kind),.raw (.int .i64 e.n),.raw (.string e.text),.sl true (e.args.map GExpr.toD)]),(false,[.raw (.int .i64 b)])])∧os'= []):=
 (acL s hs).mono fun r os' ⟨⟨k,n,t,l,b,⟨e,h1,h2⟩,hr⟩,ho⟩=>by
  obtain⟨rfl,rfl,rfl,rfl⟩:=ahU h1;exact⟨⟨e,b,h2,hr⟩,ho⟩
def e0 :GExpr:= .mk 0 0 ⟨#[]⟩ []
theorem Y7 :e0.toD.wt≤20000:=by rw[GExpr.ny];simp[e0,GExpr.text,GExpr.args,D.wts,szD]
def UH(r:AV):Prop:=∃(kd:Int) (nm:ByteArray) (e:GExpr) (vk vn vs:Int) (c:List ByteArray) (w:List GRow) (pos:Int),nm.size≤1000∧e.toD.wt≤20000∧Bh 130 c∧UE 130 w∧r= .c true [.raw (.int .i64 kd),.raw (.string nm),.raw (.int .i64 e.kind),.raw (.int .i64 e.n),.raw (.string e.text),.sl true (e.args.map GExpr.toD),.raw (.int .i64 vk),.raw (.int .i64 vn),.raw (.int .i64 vs),.raw (.string ⟨#[]⟩),.sl true [],.sl true (c.map ls),.sl true (w.map GRow.toD),.raw (.int .i64 pos)]
theorem yZ{P:Program}{t ty b:Nat}{xs:List AC}{kd vk vn vs pos:Int}{nm:ByteArray}{e:GExpr}{c:List ByteArray}{w:List GRow}{st:St}(h1:st.fr.getD t .any= .bptr b 0)(h2:st.boxes[b]? =some xs)(hf:qy st.owns [] xs [.raw (.int .i64 kd),.raw (.string nm),.raw (.int .i64 e.kind),.raw (.int .i64 e.n),.raw (.string e.text),.sl true (e.args.map GExpr.toD),.raw (.int .i64 vk),.raw (.int .i64 vn),.raw (.int .i64 vs),.raw (.string ⟨#[]⟩),.sl true [],.sl true (c.map ls),.sl true (w.map GRow.toD),.raw (.int .i64 pos)])(hp:eH P (.cell t ty) true 14=true)
 (hn:nm.size≤1000) (he:e.toD.wt≤20000) (hc:Bh 130 c) (hw:UE 130 w):iG (FM P (.cell t ty) (fun r os'=>UH r∧os'= [])) .ret st:=
 ⟨true,_,[],[],⟨⟨kd,nm,e,vk,vn,vs,c,w,pos,hn,he,hc,hw,rfl⟩,rfl⟩,rfl,by simp,trivial,hp,b,xs,h1,h2,hf⟩
def Tc :IC:=(zd_ [zz_ 1 (.box (.t 0)),zz_ 2 (.alloc [(.int .i64 0),(.string ⟨#[]⟩),(.int .i64 0),(.int .i64 0),(.string ⟨#[]⟩),(.slice none 0 0),(.int .i64 0),(.int .i64 0),(.int .i64 0),(.string ⟨#[]⟩),(.slice none 0 0),(.slice none 0 0),(.slice none 0 0),(.int .i64 0)])] (.seq (zd_ [zr_ 7 6 1,zq_ 8 115 7,zz_ 9 (.not (.t 8))] (.cond (.t 9) (zd_ [zz_ 10 (.bld [(.int .i64 0),(.string ⟨#[]⟩),(.int .i64 0),(.int .i64 0),(.string ⟨#[]⟩),(.slice none 0 0),(.int .i64 0),(.int .i64 0),(.int .i64 0),(.string ⟨#[]⟩),(.slice none 0 0),(.slice none 0 0),(.slice none 0 0),(.int .i64 0)] []),⟨none,none,.store 14 (.t 2) (.t 10)⟩] .ret) .skip)) (.seq (zd_ [zt_ 11 2 1,zs_ 12 1 11] (.block 0 (zd_ [zm_ 14 .eql 12 2,zw_ 13 14] (.cond (.t 13) (zd_ [zt_ 16 4 1,zs_ 17 1 16,zq_ 18 117 17,zw_ 15 18,zz_ 19 (.ext 0 (.t 15)),zz_ 20 (.ext 1 (.t 15)),zz_ 3 (.alloc [(.int .i64 0),(.int .i64 0),(.string ⟨#[]⟩),(.slice none 0 0)]),⟨none,none,.store 4 (.t 3) (.t 19)⟩,zw_ 4 20] (.seq (zd_ [zw_ 21 4,zm_ 22 .geq 21 0] (.cond (.t 22) (.seq (.regN true [] [zt_ 23 3 1,zs_ 24 1 23,zz_ 25 (.call 118 [(.k (.int .i64 8))]),zw_ 26 4,zz_ 27 (.bld [(.int .i64 0),(.string ⟨#[]⟩),(.int .i64 0),(.int .i64 0),(.string ⟨#[]⟩),(.slice none 0 0),(.int .i64 0),(.int .i64 0),(.int .i64 0),(.string ⟨#[]⟩),(.slice none 0 0),(.slice none 0 0),(.slice none 0 0),(.int .i64 0)] [(0,1,(.k (.int .i64 4))),(1,1,(.t 24)),(6,7,(.t 25)),(13,1,(.t 26))]),⟨none,none,.store 14 (.t 2) (.t 27)⟩]) .ret) .skip)) (zd_ [zt_ 28 3 1,zs_ 29 1 28,zr_ 30 4 3,zz_ 31 (.bld [(.int .i64 0),(.string ⟨#[]⟩),(.int .i64 0),(.int .i64 0),(.string ⟨#[]⟩),(.slice none 0 0),(.int .i64 0),(.int .i64 0),(.int .i64 0),(.string ⟨#[]⟩),(.slice none 0 0),(.slice none 0 0),(.slice none 0 0),(.int .i64 0)] [(0,1,(.k (.int .i64 2))),(1,1,(.t 29)),(2,4,(.t 30))]),⟨none,none,.store 14 (.t 2) (.t 31)⟩] .ret))) (zd_ [zm_ 33 .eql 12 3,zw_ 32 33] (.cond (.t 32) (.seq (.regN true [] [zt_ 34 3 1,zs_ 35 1 34,zt_ 36 5 1,zs_ 37 1 36,zq_ 38 119 37,zz_ 39 (.bld [(.int .i64 0),(.string ⟨#[]⟩),(.int .i64 0),(.int .i64 0),(.string ⟨#[]⟩),(.slice none 0 0),(.int .i64 0),(.int .i64 0),(.int .i64 0),(.string ⟨#[]⟩),(.slice none 0 0),(.slice none 0 0),(.slice none 0 0),(.int .i64 0)] [(0,1,(.k (.int .i64 3))),(1,1,(.t 35)),(6,7,(.t 38))]),⟨none,none,.store 14 (.t 2) (.t 39)⟩]) .ret) (zd_ [zm_ 41 .eql 12 4,zw_ 40 41] (.cond (.t 40) (zd_ [zt_ 43 4 1,zs_ 44 1 43,zq_ 45 120 44,zw_ 42 45,zz_ 46 (.ext 0 (.t 42)),zz_ 47 (.ext 1 (.t 42)),zz_ 5 (.alloc [(.int .i64 0),(.int .i64 0),(.int .i64 0),(.string ⟨#[]⟩),(.slice none 0 0),(.slice none 0 0),(.slice none 0 0)]),⟨none,none,.store 7 (.t 5) (.t 46)⟩,zw_ 6 47] (.seq (zd_ [zw_ 48 6,zz_ 49 (.not (.t 48))] (.cond (.t 49) (.seq (.regN true [] [zt_ 50 3 1,zs_ 51 1 50,zz_ 52 (.call 118 [(.k (.int .i64 8))]),zt_ 53 4 1,zs_ 54 1 53,zq_ 55 121 54,zz_ 56 (.bld [(.int .i64 0),(.string ⟨#[]⟩),(.int .i64 0),(.int .i64 0),(.string ⟨#[]⟩),(.slice none 0 0),(.int .i64 0),(.int .i64 0),(.int .i64 0),(.string ⟨#[]⟩),(.slice none 0 0),(.slice none 0 0),(.slice none 0 0),(.int .i64 0)] [(0,1,(.k (.int .i64 4))),(1,1,(.t 51)),(6,7,(.t 52)),(13,1,(.t 55))]),⟨none,none,.store 14 (.t 2) (.t 56)⟩]) .ret) .skip)) (.seq (.regN true [] [zt_ 57 3 1,zs_ 58 1 57,zt_ 59 0 1,zs_ 60 1 59,zr_ 61 7 5,zp_ 62 122 60 61,zz_ 63 (.bld [(.int .i64 0),(.string ⟨#[]⟩),(.int .i64 0),(.int .i64 0),(.string ⟨#[]⟩),(.slice none 0 0),(.int .i64 0),(.int .i64 0),(.int .i64 0),(.string ⟨#[]⟩),(.slice none 0 0),(.slice none 0 0),(.slice none 0 0),(.int .i64 0)] [(0,1,(.k (.int .i64 3))),(1,1,(.t 58)),(6,7,(.t 62))]),⟨none,none,.store 14 (.t 2) (.t 63)⟩]) .ret))) .skip)))))))) (zd_ [zz_ 64 (.bld [(.int .i64 0),(.string ⟨#[]⟩),(.int .i64 0),(.int .i64 0),(.string ⟨#[]⟩),(.slice none 0 0),(.int .i64 0),(.int .i64 0),(.int .i64 0),(.string ⟨#[]⟩),(.slice none 0 0),(.slice none 0 0),(.slice none 0 0),(.int .i64 0)] [(0,1,(.k (.int .i64 1)))]),⟨none,none,.store 14 (.t 2) (.t 64)⟩] .ret))))
theorem S9 :ak Tryz.prog (Tryz.f105.body.getD .skip)=some Tc:=by kernel_rfl
theorem agr(x:GCell)(hx:oV 5000 x):bC Tryz.prog 105 [x.toD] (fun r os'=>(UH r)∧os'= []):=by
 refine dS (fn:=Tryz.f105) (r:= .cell 2 51) (hc:=S9) (h:= ?_);unfold Tc;refine zb_ ?_;change AWP _ _ _ (st0 65 _);refine sS tdX ?_;have hv:=UO x (Nl (by decide) hx);have hnm:=hx.2.2.2.2.1;cases hb:lH x
 ·rw[hb]at hv
  repeat' (first|(refine rg_ ?_;intro K hK)|((first|(with_reducible refine aA 9 false bg ?_)|(refine aA 9 false (by simp[dU,St.ev]) ?_));intro K hK)|refine nN ?_|(refine hq_ ?_;clear hK K)|refine ca_ ?_ ?_|(refine cg_ ?_;first|refine cT_ hv ?_)|((with_reducible refine fB ?_);first|refine BI (hc:=hv) (h:= ?_))|refine sz_ (a6_ tdE @gK @gu @eU @dV.eq_1 @GRow.el) ?_|refine nv ?_|(refine c2_ ?_ ?_<;>(intro hb hb';try(exfalso;omega)))|exact bq_|fail)
  all_goals(first
   |exact yZ (e:=e0) (c:= []) (w:= []) rfl rfl ⟨rfl,rfl,rfl,rfl,rfl,⟨rfl,rfl,rfl⟩,rfl,rfl,rfl,rfl,⟨rfl,rfl,rfl⟩,⟨rfl,rfl,rfl⟩,⟨rfl,rfl,rfl⟩,rfl,trivial⟩ (by kernel_rfl) (by first|omega|decide) Y7 Qc Hw
   |exact yZ (e:=e) (c:= []) (w:= []) rfl rfl ⟨rfl,rfl,rfl,rfl,rfl,⟨rfl,rfl,rfl⟩,rfl,rfl,rfl,rfl,⟨rfl,rfl,rfl⟩,⟨rfl,rfl,rfl⟩,⟨rfl,rfl,rfl⟩,rfl,trivial⟩ (by kernel_rfl) (by first|omega|decide) hE Qc Hw
   |exact yZ (e:=e0) (c:=c2) (w:=w2) rfl rfl ⟨rfl,rfl,rfl,rfl,rfl,⟨rfl,rfl,rfl⟩,rfl,rfl,rfl,rfl,⟨rfl,rfl,rfl⟩,⟨rfl,rfl,rfl⟩,⟨rfl,rfl,rfl⟩,rfl,trivial⟩ (by kernel_rfl) (by first|omega|decide) Y7 hc2 hw2)
 ·rw[hb]at hv;have hsz:=UN hb
  repeat' (first|(refine rg_ ?_;intro K hK)|((first|(with_reducible refine aA 9 false bg ?_)|(refine aA 9 false (by simp[dU,St.ev]) ?_));intro K hK)|refine nN ?_|(refine hq_ ?_;clear hK K)|refine ca_ ?_ ?_|(refine cg_ ?_;first|refine cT_ hv ?_|(refine bn (h:=(ZX _ (by omega))) (hK:= ?_);rintro _ _ ⟨⟨e,b,hE,rfl⟩,rfl⟩)|(refine bn (h:=(Wx _)) (hK:= ?_);rintro _ _ ⟨⟨vk,vn,rfl⟩,rfl⟩)|(refine bn (h:=(acY _)) (hK:= ?_);rintro _ _ ⟨⟨vk,vn,rfl⟩,rfl⟩)|(refine bn (h:=(acJ _ (by omega))) (hK:= ?_);rintro _ _ ⟨rfl|⟨c,w,hc,hw,rfl⟩,rfl⟩)|(refine bn (h:=(Y8 _ (by omega))) (hK:= ?_);rintro _ _ ⟨⟨de,rfl⟩,rfl⟩)|(refine bn (h:=(aby _ 5 0 0 ⟨#[]⟩ _ _ rfl rfl rfl rfl hc hw)) (hK:= ?_);rintro _ _ ⟨⟨vk,vn,vs,c2,w2,hc2,hw2,rfl⟩,rfl⟩))|((with_reducible refine fB ?_);first|refine BI (hc:=hv) (h:= ?_)|(refine wY (h:=(Wx _)) (hne:=⟨_,[],⟨⟨6,0,rfl⟩,rfl⟩,rfl⟩) (hr:= ?_);rintro _ _ ⟨⟨vk,vn,rfl⟩,rfl⟩)|(refine wY (h:=(acY _)) (hne:=⟨_,[],⟨⟨6,0,rfl⟩,rfl⟩,rfl⟩) (hr:= ?_);rintro _ _ ⟨⟨vk,vn,rfl⟩,rfl⟩)|(refine wY (h:=(Y8 _ (by omega))) (hne:=⟨_,[],⟨⟨0,rfl⟩,rfl⟩,rfl⟩) (hr:= ?_);rintro _ _ ⟨⟨de,rfl⟩,rfl⟩)|(refine wY (h:=(aby _ 5 0 0 ⟨#[]⟩ _ _ rfl rfl rfl rfl hc hw)) (hne:=⟨_,[],⟨agO 0 0 0,rfl⟩,rfl⟩) (hr:= ?_);rintro _ _ ⟨⟨vk,vn,vs,c2,w2,hc2,hw2,rfl⟩,rfl⟩))|refine sz_ (a6_ tdE @gK @gu @eU @dV.eq_1 @GRow.el) ?_|refine nv ?_|(refine c2_ ?_ ?_<;>(intro hb hb';try(exfalso;omega)))|exact bq_|fail)
  all_goals(first
   |exact yZ (e:=e0) (c:= []) (w:= []) rfl rfl ⟨rfl,rfl,rfl,rfl,rfl,⟨rfl,rfl,rfl⟩,rfl,rfl,rfl,rfl,⟨rfl,rfl,rfl⟩,⟨rfl,rfl,rfl⟩,⟨rfl,rfl,rfl⟩,rfl,trivial⟩ (by kernel_rfl) (by first|omega|decide) Y7 Qc Hw
   |exact yZ (e:=e) (c:= []) (w:= []) rfl rfl ⟨rfl,rfl,rfl,rfl,rfl,⟨rfl,rfl,rfl⟩,rfl,rfl,rfl,rfl,⟨rfl,rfl,rfl⟩,⟨rfl,rfl,rfl⟩,⟨rfl,rfl,rfl⟩,rfl,trivial⟩ (by kernel_rfl) (by first|omega|decide) hE Qc Hw
   |exact yZ (e:=e0) (c:=c2) (w:=w2) rfl rfl ⟨rfl,rfl,rfl,rfl,rfl,⟨rfl,rfl,rfl⟩,rfl,rfl,rfl,rfl,⟨rfl,rfl,rfl⟩,⟨rfl,rfl,rfl⟩,⟨rfl,rfl,rfl⟩,rfl,trivial⟩ (by kernel_rfl) (by first|omega|decide) Y7 hc2 hw2)
def pF(p:GPart):D:= .agg [.leaf (.int .i64 p.kind),.leaf (.string p.name),.leaf (.int .i64 p.expr.kind),.leaf (.int .i64 p.expr.n),.leaf (.string p.expr.text),.sl (p.expr.args.map GExpr.toD),.leaf (.int .i64 p.value.kind),.leaf (.int .i64 p.value.n),.leaf (.int .i64 p.value.step),.leaf (.string p.value.text),.sl (p.value.list.map GVal.toD),.sl (p.value.cols.map ls),.sl (p.value.rows.map GRow.toD),.leaf (.int .i64 p.pos)]
theorem agY(l:List GPart):El 14 (l.map pF):=fun d hd=>by
 obtain⟨e,_,rfl⟩:=List.mem_map.1 hd;exact⟨by simp[pF,D.one,D.ones,Value.oneCell'],by simp[pF,D.sz,D.szs]⟩
theorem WX{W:Nat}:∀{c:List ByteArray},(∀s∈c,s.size≤W)→D.wts (c.map ls)≤c.length*W
 | [],_=>by simp[D.wts]
 | s::c,h=>by
   have h1:=h s (by simp);have h2:=WX (c:=c) fun x hx=>h x (by simp[hx])
   have h3:(ls s).wt=s.size:=rfl;rw[a_,D.wts,e_,j_];omega
theorem Xa :∀(c:List Int),D.wts (c.map li)=0
 | []=>by simp[D.wts]
 | s::c=>by
   rw[a_,D.wts,Xa c];rfl
theorem WZ :∀(c:List GOrigin),D.wts (c.map GOrigin.toD)=0
 | []=>by simp[D.wts]
 | s::c=>by
   rw[a_,D.wts,WZ c];rfl
theorem WY{W:Nat}:∀{w:List GRow},(∀r∈w,r.cells.length≤W∧r.src.length≤1)→D.wts (w.map GRow.toD)≤w.length*(W+1)
 | [],_=>by simp[D.wts]
 | s::c,h=>by
   have h1:=h s (by simp);have h2:=WY (w:=c) fun x hx=>h x (by simp[hx])
   have h3:s.toD.wt≤W+1:=by
    rw[GRow.ny,Xa,WZ,c_,c_];omega
   rw[a_,D.wts,e_,j_];omega
def mkP(kd:Int)(nm:ByteArray)(e:GExpr)(vk vn vs:Int)(c:List ByteArray)(w:List GRow)(pos:Int):GPart:=⟨kd,nm,e,.mk vk vn vs ⟨#[]⟩ [] c w,pos⟩
theorem ahH{kd:Int}{nm:ByteArray}{e:GExpr}{vk vn vs:Int}{c:List ByteArray}{w:List GRow}{pos:Int}(h1:nm.size≤1000)(h2:e.toD.wt≤20000)(h3:Bh 130 c)(h4:UE 130 w):(mkP kd nm e vk vn vs c w pos).toD.wt≤60000:=by
 have a1:=WX h3.2;have a2:=WY h4.2;have a3:c.length*130≤130*130:=d_ _ h3.1;have a4:w.length*131≤130*131:=d_ _ h4.1;have a5:=h3.1;have a6:=h4.1;have a7:((⟨#[]⟩:ByteArray)).size=0:=rfl;rw[GPart.ny,GVal.ny];simp only[mkP,GVal.text,GVal.list,GVal.cols,GVal.rows,n_,b_,D.wts,c_,a7];omega
def EC(r:AV):Prop:=∃ps:List GPart,ps.length≤9∧(∀p∈ps,p.toD.wt≤60000)∧r= .c false [.sl true (ps.map pF)]
theorem ZV{ps:List GPart}{p:GPart}(h:∀p∈ps,p.toD.wt≤60000)(hp:p.toD.wt≤60000):∀x∈ps++ [p],x.toD.wt≤60000:=fun x hx=>by
 rcases l_.1 hx with hx|hx
 ·exact h x hx
 ·simp only[List.mem_singleton]at hx;rw[hx];exact hp
theorem QA :∀{ps:List GPart},(∀p∈ps,p.toD.wt≤60000)→D.wts (ps.map GPart.toD)≤ps.length*60000
 | [],_=>by simp[D.wts]
 | s::c,h=>by
   have h1:=h s (by simp);have h2:=QA (ps:=c) fun x hx=>h x (by simp[hx])
   rw[a_,D.wts,e_,j_];omega
theorem H8{ps:List GPart}(h1:ps.length≤9)(h2:∀p∈ps,p.toD.wt≤60000):ps.length+D.wts (ps.map GPart.toD)≤1048576:=by
 have:=QA h2;have h3:ps.length*60000≤9*60000:=d_ _ h1;omega
def Ji :IC:=(zd_ [zz_ 1 (.box (.t 0)),zz_ 2 (.mov (.k (.slice none 0 0)))] (zd_ [zz_ 5 (.brow true 51 14 0 false []),zw_ 3 5] (.seq (zd_ [zr_ 6 1 1,zq_ 7 104 6,zz_ 8 (.not (.t 7))] (.cond (.t 8) (zd_ [zw_ 9 3,zw_ 2 9] .ret) .skip)) (.seq (zd_ [zk_ 4 0] (.block 0 (.loop (.seq (zd_ [zw_ 10 4,zt_ 11 0 1,zs_ 12 1 11,zf_ 13 false 12,zl_ 14 .lss 10 13] (.cond (.t 14) .skip (.exit 0))) (.seq (.block 1 (.reg false [zw_ 17 3,zt_ 18 0 1,zs_ 19 1 18,zw_ 20 4,ze_ 21 6 19 20,zr_ 22 6 21,zq_ 23 105 22,zz_ 24 (.brow false 51 14 1 false [(.t 23)]),zz_ 25 (.app 51 14 (.t 17) (.t 24)),zw_ 3 25])) (.reg false [zw_ 15 4,zm_ 16 .add 15 1,zw_ 4 16])))))) (zd_ [zw_ 26 3,zw_ 2 26] .ret)))))
theorem KQ :ak Tryz.prog (Tryz.f90.body.getD .skip)=some Ji:=by kernel_rfl
theorem Nj(cs:List GCell)(hn:cs.length≤9)(hall:∀x∈cs,oV 5000 x):bC Tryz.prog 90 [(⟨cs⟩:GNb).toD] (fun r os'=>(EC r)∧os'= []):=by
 refine dS (fn:=Tryz.f90) (r:= .tmp 2) (hc:=KQ) (h:= ?_);unfold Ji;refine zb_ ?_;change AWP _ _ _ (st0 27 _);refine sS tdX ?_;have hv:=abh ⟨cs⟩ (JL (by decide) hall);simp only at hv;cases hb:qH cs
 ·rw[hb]at hv
  repeat' (first|(refine rg_ ?_;intro K hK)|(refine hq_ ?_;clear hK K)|refine ca_ ?_ ?_|(refine cg_ ?_;first|refine cT_ hv ?_)|refine sz_ tdE ?_|refine nv ?_|(refine c2_ ?_ ?_<;>(intro hb hb';try(exfalso;omega)))|exact bq_|fail)
  all_goals exact O4 rfl rfl rfl ⟨⟨[],by simp,fun p hp=>by simp at hp,rfl⟩,rfl⟩
 rw[hb]at hv
 repeat' (first|(refine rg_ ?_;intro K hK)|(refine hq_ ?_;clear hK K)|refine ca_ ?_ ?_|(refine cg_ ?_;first|refine cT_ hv ?_)|refine sz_ tdE ?_|refine nv ?_|(refine c2_ ?_ ?_<;>(intro hb hb';try(exfalso;omega)))|exact bq_|fail)
 refine aQ (X:=Nat×Nat×List GPart) (fun z=> [.d,.k,.d,.v (.c false [.own 0 z.2.1]),.v (.c false [.raw (.int .i64 ((z.1:Nat)))])]) (fun z=> [⟨z.2.2.map pF,51,14,z.2.1,true⟩]) (fun _ _=> [[.sl false (cs.map GCell.toD)]]) (fun z=>z.1≤cs.length∧z.2.2.length=z.1∧∀p∈z.2.2,p.toD.wt≤60000) (fun z=>cs.length - z.1) (0,0,[]) ⟨o_ _,rfl,fun p hp=>by simp at hp⟩ ?_ ?_
 ·simp[aG,aU,aC,aF,AV.fits,AC.fits,FB,aB]
 rintro⟨i,v,ps⟩ ⟨hi,hl,hp⟩;simp only at hi hl hp;simp only[FB,aB];by_cases hlt:i<cs.length
 ·have hT:decide ((i:Int)<(cs.length:Int))=true:=decide_eq_true (by omega);have hw1:(i:Int)+1=((i+1:Nat):Int):=by omega
  have hg:idx (cs.map GCell.toD) (some (i:Int))=some (cs[i]).toD:=bU GCell.toD cs hlt
  repeat' (first|(refine rg_ ?_;intro K hK)|(refine hq_ ?_;clear hK K)|refine ca_ ?_ ?_|(refine cg_ ?_;first|(refine bn (h:=(agr cs[i] (hall _ (List.getElem_mem hlt)))) (hK:= ?_);rintro _ _ ⟨⟨kd,nm,e,vk,vn,vs,c,w,pos,hnm,he,hc,hw,rfl⟩,rfl⟩))|refine sz_ (a4_ tdE hT hw1 hg) ?_|refine nv ?_|(refine c2_ ?_ ?_<;>(intro hb hb';try(exfalso;omega)))|exact bq_|fail)
  all_goals first
   |omega
   |exact GCell.el _
   |exact agY ps
   |exact agY [mkP kd nm e vk vn vs c w pos]
   |(simp only[c_];omega)
   | (refine aP (i+1,v+1,ps++ [mkP kd nm e vk vn vs c w pos]) ⟨?_,⟨⟨by rw[List.map_append];rfl,rfl,rfl,rfl,rfl⟩,trivial⟩,⟨rfl,trivial⟩,rfl⟩ ⟨by simp only;omega,by simp[hl],ZV hp (ahH hnm he hc hw)⟩ (show cs.length - (i+1)<cs.length - i by omega)
      simp[aU,AV.fits,AC.fits,FB,aB]
      done)
 ·have hT:decide ((i:Int)<(cs.length:Int))=false:=decide_eq_false (by omega)
  repeat' (first|(refine rg_ ?_;intro K hK)|(refine hq_ ?_;clear hK K)|refine ca_ ?_ ?_|refine sz_ (aiX tdE hT) ?_|refine nv ?_|(refine c2_ ?_ ?_<;>(intro hb hb';try(exfalso;omega)))|exact bq_|fail)
  all_goals exact O4 rfl rfl rfl ⟨⟨ps,by omega,hp,rfl⟩,rfl⟩
end
end Go.Proofs.YtfjmoicellpnhaaGreat
