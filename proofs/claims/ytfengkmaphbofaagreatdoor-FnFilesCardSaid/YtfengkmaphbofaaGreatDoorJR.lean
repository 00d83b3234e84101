/-
  Texts joined: Draw4 Draw5 Draw6 Fis DrawF.
-/
import Derived.Test.YtfengkmaphbofaaGreatDoorJQ
import Derived.Test.YtfengkmaphbofaaGreatDoorJE
import Derived.Test.YtfengkmaphbofaaGreatDoorJL
set_option maxHeartbeats 16000000
set_option maxRecDepth 8000
set_option linter.unusedSimpArgs false
set_option linter.unusedVariables false
namespace Go.Proofs.YtfengkmaphbofaaGreatDoor
open Go.RowKit
section
open Nat renaming zero_le→a_,le_trans→c_,le_refl→k_
open List renaming length_nil→b_,size_toArray→d_,mem_of_mem_take→e_,mem_of_mem_drop→f_,mem_cons→g_,set_cons_zero→h_,set_cons_succ→i_,mem_cons_self→j_,not_mem_nil→l_,getElem_mem→m_,mem_append→n_
attribute [local irreducible] sw sd sn
def mY(W:Nat)(x:GCell):Prop:=(-1000000 - (W:Int)≤x.id∧x.id≤1000000+(W:Int))∧(0≤x.ver∧x.ver≤1000000+(W:Int))∧(-1000000 - (W:Int)≤x.kind∧x.kind≤1000000+(W:Int))∧(-1000000 - (W:Int)≤x.n∧x.n≤1000000+(W:Int))∧x.name.size≤1000∧x.code.size≤W
theorem mY.mono{W W':Nat}{x:GCell}(h:mY W x)(hW:W≤W'):mY W' x:=by
 unfold mY at h⊢;omega
abbrev dC(i v k:Int)(m c:ByteArray)(n:Int):D:= .agg [.leaf (.int .i64 i),.leaf (.int .i64 v),.leaf (.int .i64 k),.leaf (.string m),.leaf (.string c),.leaf (.int .i64 n)]
theorem IK(i v k:Int)(m c:ByteArray)(n:Int):(dC i v k m c n).flat= [.leaf (.int .i64 i),.leaf (.int .i64 v),.leaf (.int .i64 k),.leaf (.string m),.leaf (.string c),.leaf (.int .i64 n)]:=by simp[dC,D.flat,D.jk]
theorem Vp(i v k:Int)(m c:ByteArray)(n:Int)(b:Bool):(dC i v k m c n).acs b= [.raw (.int .i64 i),.raw (.int .i64 v),.raw (.int .i64 k),.raw (.string m),.raw (.string c),.raw (.int .i64 n)]:=by rw[D.acs,IK];rfl
theorem Vo(i v k:Int)(m c:ByteArray)(n:Int):(dC i v k m c n).isAgg=true:=rfl
theorem tdC :type_of% (Zm tdE (Zm @dC.eq_1 (Zm @Vp (Zm @Vo @IK)))):=Zm tdE (Zm @dC.eq_1 (Zm @Vp (Zm @Vo @IK)))
section
variable{P:Program}{l:List UInt8}{t ty b:Nat}{W:Nat}{st:St}{i h:Int}{id v k n:Int}{m c:ByteArray}{post:AV→List Own→List AC→Prop}
theorem Xc(h1:st.fr.getD t .any= .bptr b 0)(h2:st.boxes[b]? =some [.raw (.int .i64 id),.raw (.int .i64 v),.raw (.int .i64 k),.raw (.string m),.raw (.string c),.raw (.int .i64 n)])(h0:st.boxes[0]? =some (fC l i h))(hp:iZ P (.cell t ty) true 6=true)
 (hq:post (.c true [.raw (.int .i64 id),.raw (.int .i64 v),.raw (.int .i64 k),.raw (.string m),.raw (.string c),.raw (.int .i64 n)]) [] (fC l i h)):qX (ES P (.cell t ty) post) .ret st:=
 ⟨true,_,[],_,[],hq,rfl,h0,rfl,by simp,trivial,hp,b,_,h1,h2,⟨rfl,rfl,rfl,rfl,rfl,rfl,trivial⟩⟩
end
def Kr :IC:=(zd_ [zz_ 4 (.alloc [(.int .i64 0),(.int .i64 0),(.int .i64 0),(.string ⟨#[]⟩),(.string ⟨#[]⟩),(.int .i64 0)])] (zd_ [zw_ 6 1,zw_ 7 0,zn_ 8 57 7 3,zz_ 9 (.bin .add (.k (.int .i64 1)) (.t 8)),zw_ 10 0,zz_ 11 (.brow false 3 1 8 false [(.k (.int .i64 1)),(.k (.int .i64 2)),(.k (.int .i64 2)),(.k (.int .i64 2)),(.k (.int .i64 2)),(.k (.int .i64 3)),(.k (.int .i64 4)),(.k (.int .i64 4))]),zp_ 12 90 10 11,zw_ 13 0,zz_ 14 (.brow false 9 1 5 false [(.k (.string ⟨#[97]⟩)),(.k (.string ⟨#[98]⟩)),(.k (.string ⟨#[99]⟩)),(.k (.string ⟨#[100]⟩)),(.k (.string ⟨#[101]⟩))]),zp_ 15 91 13 14,zz_ 16 (.bld [(.int .i64 0),(.int .i64 0),(.int .i64 0),(.string ⟨#[]⟩),(.string ⟨#[]⟩),(.int .i64 0)] [(0,1,(.t 6)),(1,1,(.t 9)),(2,1,(.t 12)),(3,1,(.t 15))]),zz_ 5 (.alloc [(.int .i64 0),(.int .i64 0),(.int .i64 0),(.string ⟨#[]⟩),(.string ⟨#[]⟩),(.int .i64 0)]),⟨none,none,.store 6 (.t 5) (.t 16)⟩] (.seq (zd_ [zt_ 17 2 5,zs_ 18 1 17] (.block 0 (zd_ [zm_ 20 .eql 18 1,zw_ 19 20] (.cond (.t 19) (zd_ [zt_ 21 3 5,⟨none,none,.store 1 (.t 21) (.k (.string ⟨#[]⟩))⟩] (.reg false [zw_ 22 0,zz_ 23 (.brow false 9 1 3 false [(.k (.string ⟨#[65,32,104,101,97,100,105,110,103]⟩)),(.k (.string ⟨#[]⟩)),(.k (.string ⟨#[115,101,101,32,34,97,34,32,97,110,100,32,98]⟩))]),zp_ 24 91 22 23,zt_ 25 4 5,⟨none,none,.store 1 (.t 25) (.t 24)⟩])) (zd_ [zm_ 27 .eql 18 2,zw_ 26 27] (.cond (.t 26) (.reg false [zw_ 28 0,zq_ 29 95 28,zt_ 30 4 5,⟨none,none,.store 1 (.t 30) (.t 29)⟩]) (zd_ [zm_ 32 .eql 18 3,zw_ 31 32] (.cond (.t 31) (.reg false [zw_ 33 0,zn_ 34 57 33 9,zt_ 35 5 5,⟨none,none,.store 1 (.t 35) (.t 34)⟩]) (zd_ [zm_ 37 .eql 18 4,zw_ 36 37] (.cond (.t 36) (.reg false [zw_ 38 0,zq_ 39 96 38,zt_ 40 4 5,⟨none,none,.store 1 (.t 40) (.t 39)⟩]) .skip)))))))))) (zd_ [zr_ 41 6 5,⟨none,none,.store 6 (.t 4) (.t 41)⟩] .ret))))
theorem Kq :bg Tryz.prog (Tryz.f56.body.getD .skip)=some Kr:=by kernel_rfl
theorem QF{k:Int}(h:k∈[(1:Int),2,2,2,2,3,4,4]):0≤k∧k≤4:=by
 simp only[g_,l_,or_false]at h;omega
theorem AY(l:List UInt8)(i h:Int)(id:Int)(h0:0≤i)(h1:i≤l.length)(hl:l.length≤1048576)(hd: -1000000≤id∧id≤1000000):iq Tryz.prog 56 [li id] (fC l i h) (fun r os' c'=>(∃x:GCell,mY 1000 x∧x.id=id∧r= .c true [.raw (.int .i64 x.id),.raw (.int .i64 x.ver),.raw (.int .i64 x.kind),.raw (.string x.name),.raw (.string x.code),.raw (.int .i64 x.n)])∧os'= []∧pz l c'):=by
 refine jK (fn:=Tryz.f56) (r:= .cell 4 45) (hc:=Kq) (h:= ?_);unfold Kr fC;refine zb_ ?_;change iK _ _ _ _ (stS 42 _ _ _);refine sS tdX ?_;have hwv:∀x:Int,0≤x→x<3→IntKind.i64.wrap (1+x)=1+x:=fun x a b=>iY (by omega) (by omega)
 repeat' (first|(refine rg_ ?_;intro K hK)|(refine hq_ ?_;clear hK K)|refine ca_ ?_ ?_|(refine cg_ ?_;first|(refine dJ true (h:=(dU l _ _ (3) ‹_› ‹_› hl (by decide))) (hK:= ?_);rintro _ _ _ ⟨⟨xv,hxv0,hxv1,hxv2,rfl⟩,rfl,i,h,hi0,hi1,rfl⟩)|(refine dJ true (h:=(dU l _ _ (9) ‹_› ‹_› hl (by decide))) (hK:= ?_);rintro _ _ _ ⟨⟨xn,hxn0,hxn1,hxn2,rfl⟩,rfl,i,h,hi0,hi1,rfl⟩)|(refine dJ true (h:=(rF l _ _ [1,2,2,2,2,3,4,4] ‹_› ‹_› hl (by decide) (by decide))) (hK:= ?_);rintro _ _ _ ⟨⟨pk,hpk,rfl⟩,rfl,i,h,hi0,hi1,rfl⟩)|(refine dJ true (h:=(oC l _ _ 8 [(⟨#[97]⟩:ByteArray),(⟨#[98]⟩:ByteArray),(⟨#[99]⟩:ByteArray),(⟨#[100]⟩:ByteArray),(⟨#[101]⟩:ByteArray)] ‹_› ‹_› hl (by simp) (by simp) (by decide))) (hK:= ?_);rintro _ _ _ ⟨⟨nm,hnm,rfl⟩,rfl,i,h,hi0,hi1,rfl⟩)|(refine dJ true (h:=(oC l _ _ 64 [(⟨#[65,32,104,101,97,100,105,110,103]⟩:ByteArray),(⟨#[]⟩:ByteArray),(⟨#[115,101,101,32,34,97,34,32,97,110,100,32,98]⟩:ByteArray)] ‹_› ‹_› hl (by simp) (by simp) (by decide))) (hK:= ?_);rintro _ _ _ ⟨⟨s,hs,rfl⟩,rfl,i,h,hi0,hi1,rfl⟩)|(refine dJ true (h:=(VZ l _ _ ‹_› ‹_› hl)) (hK:= ?_);rintro _ _ _ ⟨⟨s,hs,rfl⟩,rfl,i,h,hi0,hi1,rfl⟩)|(refine dJ true (h:=(V3 l _ _ ‹_› ‹_› hl)) (hK:= ?_);rintro _ _ _ ⟨⟨s,hs,rfl⟩,rfl,i,h,hi0,hi1,rfl⟩))|refine sz_ tdC ?_|refine nv ?_|(refine c2_ ?_ ?_<;>(intro hb hb';try(exfalso;omega)))|exact bq_|fail)
 all_goals first
  |omega
  | (have hkm:=QF hpk
     refine Xc rfl rfl rfl (by kernel_rfl) ⟨⟨⟨_,_,_,_,_,_⟩, ?cb,rfl,rfl⟩,rfl,_,_, ‹_›, ‹_›,rfl⟩
     case cb=>exact⟨⟨by simp only;omega,by simp only;omega⟩,⟨by simp only;omega,by simp only;omega⟩,⟨by simp only;omega,by simp only;omega⟩,⟨by simp only;omega,by simp only;omega⟩,by simp only[szD,d_,b_];omega,by simp only[szD,d_,b_];omega⟩)
theorem Yk{k:Nat}(hk:k<8):∃z:ByteArray,z.size≤8∧([.leaf (.string ⟨#[97]⟩),.leaf (.string ⟨#[98]⟩),.leaf (.string ⟨#[99]⟩),.leaf (.string ⟨#[100]⟩),.leaf (.string ⟨#[101]⟩),.leaf (.string ⟨#[97,49]⟩),.leaf (.string ⟨#[98,49]⟩),.leaf (.string ⟨#[99,49]⟩)]:List D)[k]? =some (.leaf (.string z)):=by
 match k,hk with
 |0,_=>exact⟨_,by decide,rfl⟩
 |1,_=>exact⟨_,by decide,rfl⟩
 |2,_=>exact⟨_,by decide,rfl⟩
 |3,_=>exact⟨_,by decide,rfl⟩
 |4,_=>exact⟨_,by decide,rfl⟩
 |5,_=>exact⟨_,by decide,rfl⟩
 |6,_=>exact⟨_,by decide,rfl⟩
 |7,_=>exact⟨_,by decide,rfl⟩
theorem Et{W:Nat}{x:GCell}{z:ByteArray}(h:mY W x)(hz:z.size≤8):mY W ⟨x.id,x.ver,x.kind,z,x.code,x.n⟩:=⟨h.1,h.2.1,h.2.2.1,h.2.2.2.1,c_ hz (by decide),h.2.2.2.2.2⟩
theorem P8{p:GCell→Prop}{cs:List GCell}{x:GCell}{j:Nat}(h:∀y∈cs,p y)(hx:p x):∀y∈cs.take j++x::cs.drop j,p y:=fun y hy=>by
 rcases n_.1 hy with hy|hy
 ·exact h y (e_ hy)
 ·rcases g_.1 hy with rfl|hy
  ·exact hx
  ·exact h y (f_ hy)
theorem Tv{cs:List GCell}{x:GCell}{j:Nat}:(cs.map GCell.toD).take j++ [x.toD]++((cs.map GCell.toD).take cs.length).drop j=(cs.take j++x::cs.drop j).map GCell.toD:=by
 rw[List.take_of_length_le (l:=cs.map GCell.toD) (i:=cs.length) (by simp)];simp[List.map_take,List.map_drop]
theorem PD{s k:Nat}{l:List D}(h:El s l):El s (l.take k):=fun d hd=>h d (e_ hd)
theorem Xj{s k:Nat}{l:List D}(h:El s l):El s (l.drop k):=fun d hd=>h d (f_ hd)
theorem XY(cs:List GCell):lV (cs.map GCell.toD):=qc (g:=GCell.toD) (fun x w f cs h=>(GCell.opened.1 h).1) cs
theorem Px{P:Program}{t ty b k v e s:Nat}{nw:Nw}{st:St}{l:List UInt8}{i h:Int}{cs:List GCell}{post:AV→List Own→List AC→Prop}(h1:st.fr.getD t .any= .bptr b 0)(h2:st.boxes[b]? =some [.own k v])(ho:st.owns[k]? =some ⟨cs.map GCell.toD,e,s,v,nw⟩)
 (h0:st.boxes[0]? =some (fC l i h)) (hp:iZ P (.cell t ty) true 1=true) (hq:post (.c true [.own 0 0]) [⟨cs.map GCell.toD,e,s,0,⟨true,true⟩⟩] (fC l i h)):qX (ES P (.cell t ty) post) .ret st:=
 ⟨true,[.own 0 0],[⟨cs.map GCell.toD,e,s,0,⟨true,true⟩⟩],fC l i h,[k],hq,rfl,h0,rfl,by simp,⟨⟨_,ho,rfl,XY cs⟩,trivial⟩,hp,b,_,h1,h2,⟨rfl,rfl,_,ho,rfl⟩,trivial⟩
theorem O5{cs:List GCell}{x:GCell}{j:Nat}:(cs.take j++x::cs.drop j).length=cs.length+1:=by
 simp;omega
def J8 :IC:=(zd_ [zz_ 4 (.alloc [(.slice none 0 0)])] (zd_ [zz_ 10 (.bld [(.slice none 0 0)] []),zz_ 5 (.alloc [(.slice none 0 0)]),⟨none,none,.store 1 (.t 5) (.t 10)⟩] (zd_ [zw_ 11 0,zw_ 12 1,zm_ 13 .add 12 1,zp_ 14 57 11 13,zw_ 6 14] (.seq (zd_ [zk_ 7 0] (.block 0 (.loop (.seq (zd_ [zw_ 15 7,zw_ 16 6,zl_ 17 .lss 15 16] (.cond (.t 17) .skip (.exit 0))) (.seq (.block 1 (zd_ [zw_ 20 0,zw_ 21 7,zm_ 22 .add 21 1,zp_ 23 56 20 22,zz_ 8 (.alloc [(.int .i64 0),(.int .i64 0),(.int .i64 0),(.string ⟨#[]⟩),(.string ⟨#[]⟩),(.int .i64 0)]),⟨none,none,.store 6 (.t 8) (.t 23)⟩] (.seq (zd_ [zt_ 24 2 8,zs_ 25 1 24,zm_ 26 .neq 25 1,zw_ 27 26,zv_ 28 27 0,zy_ 29 27 (.call 93 [(.t 28),(.k (.int .i64 10))]),zy_ 30 27 (.not (.t 29)),zh_ 31 27 30 false] (.cond (.t 31) (.reg false [zz_ 32 (.brow true 9 1 8 false [(.k (.string ⟨#[97]⟩)),(.k (.string ⟨#[98]⟩)),(.k (.string ⟨#[99]⟩)),(.k (.string ⟨#[100]⟩)),(.k (.string ⟨#[101]⟩)),(.k (.string ⟨#[97,49]⟩)),(.k (.string ⟨#[98,49]⟩)),(.k (.string ⟨#[99,49]⟩))]),zw_ 33 7,ze_ 34 1 32 33,zs_ 35 1 34,zt_ 36 3 8,⟨none,none,.store 1 (.t 36) (.t 35)⟩]) .skip)) (zd_ [zw_ 37 0,zt_ 38 0 5,zs_ 39 1 38,zf_ 40 false 39,zm_ 41 .add 40 1,zp_ 42 57 37 41,zw_ 9 42] (.reg true [zz_ 43 (.brow true 45 6 0 false []),zt_ 44 0 5,zs_ 45 1 44,zw_ 46 9,zz_ 47 (.lsl 6 (.t 45) none (some (.t 46))),zz_ 48 (.app 45 6 (.t 43) (.t 47)),zr_ 49 6 8,zz_ 50 (.brow false 45 6 1 false [(.t 49)]),zz_ 51 (.app 45 6 (.t 48) (.t 50)),zt_ 52 0 5,zs_ 53 1 52,zw_ 54 9,zz_ 55 (.lsl 6 (.t 53) (some (.t 54)) none),zz_ 56 (.app 45 6 (.t 51) (.t 55)),zt_ 57 0 5,⟨none,none,.store 1 (.t 57) (.t 56)⟩]))))) (.reg false [zw_ 18 7,zm_ 19 .add 18 1,zw_ 7 19])))))) (zd_ [zr_ 58 1 5,⟨none,none,.store 1 (.t 4) (.t 58)⟩] .ret)))))
theorem J7 :bg Tryz.prog (Tryz.f54.body.getD .skip)=some J8:=by kernel_rfl
theorem N7(l:List UInt8)(i h:Int)(m:Nat)(h0:0≤i)(h1:i≤l.length)(hl:l.length≤1048576)(hm:m≤8):iq Tryz.prog 54 [li (m:Int)] (fC l i h) (fun r os' c'=>(∃cs:List GCell,cs.length≤m∧(∀x∈cs,mY 1000 x)∧r= .c true [.own 0 0]∧os'= [⟨cs.map GCell.toD,45,6,0,⟨true,true⟩⟩])∧pz l c'):=by
 refine jK (fn:=Tryz.f54) (r:= .cell 4 36) (hc:=J7) (h:= ?_);unfold J8 fC;refine zb_ ?_;change iK _ _ _ _ (stS 59 _ _ _);refine sS tdX ?_;have hw0:IntKind.i64.wrap ((m:Int)+1)=((m+1:Nat):Int):=iP (by omega)
 repeat' (first|(refine hq_ ?_;clear hK K)|refine ca_ ?_ ?_|refine gq_ ?_|(refine c2_ ?_ ?_<;>(intro hb hb';try(exfalso;omega)))|(refine cg_ ?_;first|(refine dJ true (h:=(nR l _ _ (m+1) ‹_› ‹_› hl (by omega) (by omega))) (hK:= ?_);rintro _ _ _ ⟨⟨n,hn,rfl⟩,rfl,i,h,hi0,hi1,rfl⟩))|refine sz_ (a3_ tdC @kW hw0) ?_|refine nv ?_|(refine rD ?_;intro K hK)|(exact GCell.el _)|(exact GCell.el [⟨_,_,_,_,_,_⟩])|exact bq_|fail)
 refine VE 2 0 45 6 false rfl rfl ?_;simp only[St.JH,List.nil_append,b_,h_,i_,List.getD_cons_zero,List.getD_cons_succ];refine NQ (X:=Nat×Nat×List GCell×Int×Int) (fun z=> [.k,.d,.d,.d,.k,.k,.k,.v (.c false [.raw (.int .i64 ((z.1:Nat)))])]) (fun z=> [⟨z.2.2.1.map GCell.toD,45,6,z.2.1,⟨true,false⟩⟩]) (fun z _=> [fC l z.2.2.2.1 z.2.2.2.2,[.raw (.slice none 0 0)],[.own 0 z.2.1]])
  (fun z=>z.1≤n∧z.2.2.1.length=z.1∧(∀x∈z.2.2.1,mY 1000 x)∧0≤z.2.2.2.1∧z.2.2.2.1≤l.length) (fun z=>n - z.1) (0,0,[],i,h) [0] ⟨a_ _,rfl,fun x hx=>by simp at hx,hi0,hi1⟩ rfl (fun z=>by simp) ?_ ?_
 ·simp[GR,GX,I5,zG,AV.ren,AC.ren,AV.fits,AC.fits,FB,fP,fC]
 rintro⟨k,v,cs,i,h⟩ ⟨hk,hcs,hall,hi0,hi1⟩;simp only at hk hcs hall hi0 hi1;simp only[FB,fP];by_cases hlt:k<n
 ·have hT:decide ((k:Int)<(n:Int))=true:=decide_eq_true (by omega);have hw1:IntKind.i64.wrap ((k:Int)+1)=((k+1:Nat):Int):=iP (by omega);have hw2:IntKind.i64.wrap ((cs.length:Int)+1)=((cs.length+1:Nat):Int):=iP (by omega);obtain⟨z,hz,hg⟩:=Yk (k:=k) (by omega);refine Am 0 rfl ?_;simp only[St.rel,AV.rel,AC.rel,dB,List.map_cons,List.map_nil,and_self,if_true,fC,List.getElem?_cons_zero,h_,i_]
  repeat' (first|(refine hq_ ?_;clear hK K)|refine ca_ ?_ ?_|refine gq_ ?_|(refine c2_ ?_ ?_<;>(intro hb hb';try(exfalso;omega)))|(refine cg_ ?_;first|(refine dJ true (h:=(AY l _ _ _ ‹_› ‹_› hl (by constructor<;>omega))) (hK:= ?_);rintro _ _ _ ⟨⟨x,hx,hxi,rfl⟩,rfl,i,h,hi0,hi1,rfl⟩)|(refine dJ true (h:=(uq l _ _ (10) ‹_› ‹_› hl (by decide))) (hK:= ?_);rintro _ _ _ ⟨⟨b,rfl⟩,rfl,i,h,hi0,hi1,rfl⟩)|(refine dJ true (h:=(nR l _ _ (cs.length+1) ‹_› ‹_› hl (by omega) (by omega))) (hK:= ?_);rintro _ _ _ ⟨⟨j,hj,rfl⟩,rfl,i,h,hi0,hi1,rfl⟩))|refine sz_ (a6_ tdC @kW hT hw1 hw2 hg) ?_|refine nv ?_|(refine rD ?_;intro K hK)|(exact GCell.el _)|(exact GCell.el [⟨_,_,_,_,_,_⟩])|exact bq_|fail)
  all_goals first
   |exact PD (GCell.el _)
   |exact Xj (PD (GCell.el _))
   | (refine SC (k+1,3,cs.take j++(⟨x.id,x.ver,x.kind,x.name,x.code,x.n⟩:GCell)::cs.drop j,i,h) [1] ⟨by simp, ?fr,⟨⟨Tv (x:=⟨x.id,x.ver,x.kind,x.name,x.code,x.n⟩),rfl,rfl,rfl,rfl⟩,trivial⟩, ?bx, ?ft⟩ ⟨by simp only;omega,by simp only;rw[O5,hcs], ?al,by assumption,by assumption⟩ (show n - (k+1)<n - k by omega)
      case fr=>simp[GX,AV.ren,AC.ren,AV.fits,AC.fits,FB,fP]
      case bx=>simp[zG,AC.ren,FB,fC]
      case ft=>simp[AC.fits,FB,fC]
      case al=>exact P8 hall (by first|exact hx|exact Et hx hz))
   | (refine SC (k+1,3,cs.take j++(⟨x.id,x.ver,x.kind,z,x.code,x.n⟩:GCell)::cs.drop j,i,h) [2] ⟨by simp, ?fr,⟨⟨Tv (x:=⟨x.id,x.ver,x.kind,z,x.code,x.n⟩),rfl,rfl,rfl,rfl⟩,trivial⟩, ?bx, ?ft⟩ ⟨by simp only;omega,by simp only;rw[O5,hcs], ?al,by assumption,by assumption⟩ (show n - (k+1)<n - k by omega)
      case fr=>simp[GX,AV.ren,AC.ren,AV.fits,AC.fits,FB,fP]
      case bx=>simp[zG,AC.ren,FB,fC]
      case ft=>simp[AC.fits,FB,fC]
      case al=>exact P8 hall (by first|exact hx|exact Et hx hz))
 ·have hT:decide ((k:Int)<(n:Int))=false:=decide_eq_false (by omega)
  repeat' (first|(refine hq_ ?_;clear hK K)|refine ca_ ?_ ?_|refine gq_ ?_|(refine c2_ ?_ ?_<;>(intro hb hb';try(exfalso;omega)))|refine sz_ (a3_ tdC @kW hT) ?_|refine nv ?_|(refine rD ?_;intro K hK)|(exact GCell.el _)|(exact GCell.el [⟨_,_,_,_,_,_⟩])|exact bq_|fail)
  exact Px rfl rfl rfl rfl (by kernel_rfl) ⟨⟨cs,by omega,hall,rfl,rfl⟩,i,h,hi0,hi1,rfl⟩
theorem yU{l:List GCell}{k:Nat}{c:GCell}:(l.map GCell.toD).set k c.toD=(l.set k c).map GCell.toD:=by rw[List.map_set]
theorem Yp{cs:List GCell}{k:Nat}(h:k<cs.length):(cs.map GCell.toD)[k]? =some (cs[k]).toD:=by rw[List.getElem?_map,List.getElem?_eq_getElem h];rfl
theorem VJ{p:GCell→Prop}{cs:List GCell}{x:GCell}{k:Nat}(h:∀y∈cs,p y)(hx:p x):∀y∈cs.set k x,p y:=fun y hy=>(List.mem_or_eq_of_mem_set hy).elim (h y) (fun e=>e▸hx)
theorem XD{p:GCell→Prop}{cs:List GCell}{x:GCell}(h:∀y∈cs,p y)(hx:p x):∀y∈cs++ [x],p y:=fun y hy=>(n_.1 hy).elim (h y) (fun e=>(List.mem_singleton.1 e)▸hx)
theorem Yx{id:Int}(h: -1000000≤id∧id≤1000000):mY 1000 ⟨id,0,0,⟨#[]⟩,⟨#[]⟩,0⟩:=⟨by simp only;omega,by simp,by simp,by simp,a_ _,a_ _⟩
theorem XB{cs:List GCell}{x:GCell}:cs.map GCell.toD++ [x.toD]=(cs++ [x]).map GCell.toD:=by simp
theorem Yb{cs:List GCell}{k:Nat}{h:k<cs.length}(v:Int):(cs.map GCell.toD).set k (D.patch (cs[k]).toD 0 (.leaf (.int .i64 v)))=(cs.set k {cs[k]with id:=v}).map GCell.toD:=by
 rw[← yU];rfl
theorem Wu{cs:List GCell}{k:Nat}{h:k<cs.length}(v:Int):(cs.map GCell.toD).set k (D.patch (cs[k]).toD 1 (.leaf (.int .i64 v)))=(cs.set k {cs[k]with ver:=v}).map GCell.toD:=by
 rw[← yU];rfl
theorem RY{cs:List GCell}{k:Nat}{h:k<cs.length}(v:Int):(cs.map GCell.toD).set k (D.patch (cs[k]).toD 2 (.leaf (.int .i64 v)))=(cs.set k {cs[k]with kind:=v}).map GCell.toD:=by
 rw[← yU];rfl
theorem RX{cs:List GCell}{k:Nat}{h:k<cs.length}(v:ByteArray):(cs.map GCell.toD).set k (D.patch (cs[k]).toD 3 (.leaf (.string v)))=(cs.set k {cs[k]with name:=v}).map GCell.toD:=by
 rw[← yU];rfl
theorem RZ{cs:List GCell}{k:Nat}{h:k<cs.length}(v:ByteArray):(cs.map GCell.toD).set k (D.patch (cs[k]).toD 4 (.leaf (.string v)))=(cs.set k {cs[k]with code:=v}).map GCell.toD:=by
 rw[← yU];rfl
theorem YK{cs:List GCell}{k:Nat}{h:k<cs.length}(v:Int):(cs.map GCell.toD).set k (D.patch (cs[k]).toD 5 (.leaf (.int .i64 v)))=(cs.set k {cs[k]with n:=v}).map GCell.toD:=by
 rw[← yU];rfl
def Ku :IC:=(zd_ [zz_ 2 (.alloc [(.slice none 0 0)])] (zd_ [zw_ 5 0,zn_ 6 54 5 6,zz_ 3 (.alloc [(.slice none 0 0)]),⟨none,none,.store 1 (.t 3) (.t 6)⟩] (.seq (zd_ [zt_ 7 0 3,zs_ 8 1 7,zf_ 9 false 8,zm_ 10 .eql 9 0] (.cond (.t 10) (zd_ [zr_ 11 1 3,⟨none,none,.store 1 (.t 2) (.t 11)⟩] .ret) .skip)) (zd_ [zw_ 12 0,zt_ 13 0 3,zs_ 14 1 13,zf_ 15 false 14,zp_ 16 57 12 15,zw_ 4 16] (.seq (zd_ [zw_ 17 0,zn_ 18 57 17 12] (.block 0 (zd_ [zm_ 20 .eql 18 0,zw_ 19 20] (.cond (.t 19) (.regN true false [] [zt_ 21 0 3,zs_ 22 1 21,zw_ 23 4,zw_ 24 0,zz_ 25 (.brow false 3 1 3 false [(.k (.int .i64 0)),(.k (.int .i64 1)),(.k (.int .i64 1000))]),zp_ 26 90 24 25,ze_ 27 6 22 23,zt_ 28 0 27,⟨none,none,.store 1 (.t 28) (.t 26)⟩]) (zd_ [zm_ 30 .eql 18 1,zw_ 29 30] (.cond (.t 29) (.regN true false [] [zt_ 31 0 3,zs_ 32 1 31,zw_ 33 4,zw_ 34 0,zz_ 35 (.brow false 3 1 3 false [(.k (.int .i64 0)),(.k (.int .i64 999)),(.k (.int .i64 1000))]),zp_ 36 90 34 35,ze_ 37 6 32 33,zt_ 38 1 37,⟨none,none,.store 1 (.t 38) (.t 36)⟩]) (zd_ [zm_ 40 .eql 18 2,zw_ 39 40] (.cond (.t 39) (.regN true false [] [zt_ 41 0 3,zs_ 42 1 41,zw_ 43 4,zw_ 44 0,zn_ 45 57 44 6,ze_ 46 6 42 43,zt_ 47 2 46,⟨none,none,.store 1 (.t 47) (.t 45)⟩]) (zd_ [zm_ 49 .eql 18 3,zw_ 48 49] (.cond (.t 48) (.regN true false [] [zt_ 50 0 3,zs_ 51 1 50,zw_ 52 4,zt_ 53 0 3,zs_ 54 1 53,zw_ 55 4,ze_ 56 6 54 55,zt_ 57 4 56,zs_ 58 1 57,zz_ 59 (.bin .add (.t 58) (.k (.string ⟨#[10]⟩))),ze_ 60 6 51 52,zt_ 61 4 60,⟨none,none,.store 1 (.t 61) (.t 59)⟩]) (zd_ [zm_ 63 .eql 18 4,zw_ 62 63] (.cond (.t 62) (.regN true false [] [zt_ 64 0 3,zs_ 65 1 64,zw_ 66 4,zw_ 67 0,zz_ 68 (.brow false 9 1 3 false [(.k (.string ⟨#[108,101,116]⟩)),(.k (.string ⟨#[]⟩)),(.k (.string ⟨#[120]⟩))]),zp_ 69 91 67 68,ze_ 70 6 65 66,zt_ 71 3 70,⟨none,none,.store 1 (.t 71) (.t 69)⟩]) (zd_ [zm_ 73 .eql 18 5,zw_ 72 73] (.cond (.t 72) (.block 1 (.loop (.seq (.seq (.regN true false [] [zt_ 74 0 3,zs_ 75 1 74,zf_ 76 false 75,zw_ 77 0,zn_ 78 57 77 2,zz_ 79 (.bin .add (.k (.int .i64 8)) (.t 78)),zl_ 80 .lss 76 79]) (.cond (.t 80) .skip (.exit 1))) (.block 2 (.regN true true [] [zt_ 81 0 3,zs_ 82 1 81,zw_ 83 0,zt_ 84 0 3,zs_ 85 1 84,zf_ 86 false 85,zz_ 87 (.bin .add (.k (.int .i64 20)) (.t 86)),zp_ 88 56 83 87,zz_ 89 (.brow false 45 6 1 false [(.t 88)]),zz_ 90 (.app 45 6 (.t 82) (.t 89)),zt_ 91 0 3,⟨none,none,.store 1 (.t 91) (.t 90)⟩]))))) .skip)))))))))))))) (zd_ [zr_ 92 1 3,⟨none,none,.store 1 (.t 2) (.t 92)⟩] .ret))))))
theorem Kt :bg Tryz.prog (Tryz.f48.body.getD .skip)=some Ku:=by kernel_rfl
theorem V4(l:List UInt8)(i h:Int)(h0:0≤i)(h1:i≤l.length)(hl:l.length≤1048576):iq Tryz.prog 48 [] (fC l i h) (fun r os' c'=>(∃cs:List GCell,cs.length≤9∧(∀x∈cs,mY 5000 x)∧r= .c true [.own 0 0]∧os'= [⟨cs.map GCell.toD,45,6,0,⟨true,true⟩⟩])∧pz l c'):=by
 refine jK (fn:=Tryz.f48) (r:= .cell 2 36) (hc:=Kt) (h:= ?_);unfold Ku fC;refine zb_ ?_;change iK _ _ _ _ (stS 93 _ _ _);refine sS tdX ?_
 repeat' (first|(refine rg_ ?_;intro K hK)|((first|(with_reducible refine fD 0 false iR ?_)|(refine fD 0 false (by simp[kU,St.ev]) ?_));intro K hK)|refine nN ?_|(refine hq_ ?_;clear hK K)|refine ca_ ?_ ?_|(refine cg_ ?_;first|(refine dJ true (h:=(N7 l _ _ 6 ‹_› ‹_› hl (by decide))) (hK:= ?_);rintro _ _ _ ⟨⟨cs,hcs,hall,rfl,rfl⟩,i,h,hi0,hi1,rfl⟩))|refine sz_ (Zm tdC @kW) ?_|refine nv ?_|(refine c2_ ?_ ?_<;>(intro hb hb';try(exfalso;omega)))|(exact GCell.el _)|(exact GCell.el [⟨_,_,_,_,_,_⟩])|exact bq_|fail)
 ·exact Px rfl rfl rfl rfl (by kernel_rfl) ⟨⟨cs,by omega,fun x hx=>(hall x hx).mono (by decide),rfl,rfl⟩,i,h,hi0,hi1,rfl⟩
 have hcz:∀(j:Nat) (hj:j<cs.length),((((cs[j]).code.size+1:Nat):Int) > IntKind.i64.max)=False:=fun j hj=>oN (by have:=(hall _ (m_ hj)).2.2.2.2.2;omega)
 repeat' (first|(refine rg_ ?_;intro K hK)|((first|(with_reducible refine fD 0 false iR ?_)|(refine fD 0 false (by simp[kU,St.ev]) ?_));intro K hK)|refine nN ?_|(refine hq_ ?_;clear hK K)|refine ca_ ?_ ?_|(refine cg_ ?_;first|(refine dJ true (h:=(nR l _ _ (cs.length) ‹_› ‹_› hl (by omega) (by omega))) (hK:= ?_);rintro _ _ _ ⟨⟨k,hk,rfl⟩,rfl,i,h,hi0,hi1,rfl⟩)|(refine dJ true (h:=(dU l _ _ (12) ‹_› ‹_› hl (by decide))) (hK:= ?_);rintro _ _ _ ⟨⟨cz,hcz0,hcz1,hcz2,rfl⟩,rfl,i,h,hi0,hi1,rfl⟩)|(refine dJ true (h:=(rF l _ _ [0,1,1000] ‹_› ‹_› hl (by decide) (by decide))) (hK:= ?_);rintro _ _ _ ⟨⟨pv,hpv,rfl⟩,rfl,i,h,hi0,hi1,rfl⟩)|(refine dJ true (h:=(rF l _ _ [0,999,1000] ‹_› ‹_› hl (by decide) (by decide))) (hK:= ?_);rintro _ _ _ ⟨⟨pv,hpv,rfl⟩,rfl,i,h,hi0,hi1,rfl⟩)|(refine dJ true (h:=(dU l _ _ (6) ‹_› ‹_› hl (by decide))) (hK:= ?_);rintro _ _ _ ⟨⟨kv,hkv0,hkv1,hkv2,rfl⟩,rfl,i,h,hi0,hi1,rfl⟩)|(refine dJ true (h:=(oC l _ _ 8 [(⟨#[108,101,116]⟩:ByteArray),(⟨#[]⟩:ByteArray),(⟨#[120]⟩:ByteArray)] ‹_› ‹_› hl (by simp) (by simp) (by decide))) (hK:= ?_);rintro _ _ _ ⟨⟨nm,hnm,rfl⟩,rfl,i,h,hi0,hi1,rfl⟩))|((with_reducible refine kL ?_);first|(refine kF true (h:=(dU l _ _ (12) ‹_› ‹_› hl (by decide))) (hne:=⟨_,[],fC l 0 0,⟨⟨0,by decide,by decide,by decide,rfl⟩,rfl,0,0,by omega,by omega,rfl⟩,rfl⟩) (hr:= ?_);rintro _ _ _ ⟨⟨cz,hcz0,hcz1,hcz2,rfl⟩,rfl,i,h,hi0,hi1,rfl⟩)|(refine kF true (h:=(rF l _ _ [0,1,1000] ‹_› ‹_› hl (by decide) (by decide))) (hne:=⟨_,[],fC l 0 0,⟨⟨0,j_ ..,rfl⟩,rfl,0,0,by omega,by omega,rfl⟩,rfl⟩) (hr:= ?_);rintro _ _ _ ⟨⟨pv,hpv,rfl⟩,rfl,i,h,hi0,hi1,rfl⟩)|(refine kF true (h:=(rF l _ _ [0,999,1000] ‹_› ‹_› hl (by decide) (by decide))) (hne:=⟨_,[],fC l 0 0,⟨⟨0,j_ ..,rfl⟩,rfl,0,0,by omega,by omega,rfl⟩,rfl⟩) (hr:= ?_);rintro _ _ _ ⟨⟨pv,hpv,rfl⟩,rfl,i,h,hi0,hi1,rfl⟩)|(refine kF true (h:=(dU l _ _ (6) ‹_› ‹_› hl (by decide))) (hne:=⟨_,[],fC l 0 0,⟨⟨0,by decide,by decide,by decide,rfl⟩,rfl,0,0,by omega,by omega,rfl⟩,rfl⟩) (hr:= ?_);rintro _ _ _ ⟨⟨kv,hkv0,hkv1,hkv2,rfl⟩,rfl,i,h,hi0,hi1,rfl⟩)|(refine kF true (h:=(oC l _ _ 8 [(⟨#[108,101,116]⟩:ByteArray),(⟨#[]⟩:ByteArray),(⟨#[120]⟩:ByteArray)] ‹_› ‹_› hl (by simp) (by simp) (by decide))) (hne:=⟨_,[],fC l 0 0,⟨⟨⟨#[]⟩,a_ _,rfl⟩,rfl,0,0,by omega,by omega,rfl⟩,rfl⟩) (hr:= ?_);rintro _ _ _ ⟨⟨nm,hnm,rfl⟩,rfl,i,h,hi0,hi1,rfl⟩))|refine sz_ (a4_ tdC @kW @oN (a9_ @pG hcz @Yp @Yb @Wu @RY @RX @RZ @YK)) ?_|refine nv ?_|(refine c2_ ?_ ?_<;>(intro hb hb';try(exfalso;omega)))|(exact GCell.el _)|(exact GCell.el [⟨_,_,_,_,_,_⟩])|exact bq_|fail)
 all_goals first
  | (have hck:=hall _ (m_ hk)
     refine Px rfl rfl rfl rfl (by kernel_rfl) ⟨⟨_, ?ln, ?al,rfl,rfl⟩,i,h,hi0,hi1,rfl⟩
     case ln=>first|omega|(rw[List.length_set];omega)
     case al=>
      first
      |exact fun x hx=>(hall x hx).mono (by decide)
      | (refine VJ (fun x hx=>(hall x hx).mono (by decide)) ?_
         try simp only[g_,l_,or_false]at hpv
         unfold mY at hck⊢;simp only[ByteArray.size_append,szD,d_,List.length_cons,b_];omega))
  |skip
 have hwb:∀b:Nat,b<2→IntKind.i64.wrap (8+(b:Int))=8+(b:Int):=fun b hb=>iY (by omega) (by omega)
 refine og (X:=Nat×Bool×List GCell×Int×Int) (fun z=> [.k,.d,.k,.k]) (fun z=> [⟨z.2.2.1.map GCell.toD,45,6,z.1,⟨true,z.2.1⟩⟩]) (fun z _=> [fC l z.2.2.2.1 z.2.2.2.2,[.raw (.slice none 0 0)],[.own 0 z.1]])
  (fun z=>z.2.2.1.length≤9∧(∀x∈z.2.2.1,mY 5000 x)∧0≤z.2.2.2.1∧z.2.2.2.1≤l.length) (fun z=>9 - z.2.2.1.length) (0,true,cs,i,h) ⟨by simp only;omega,fun x hx=>(hall x hx).mono (by decide),hi0,hi1⟩ (fun z=>⟨a_ _,by simp⟩) ?_ ?_
 ·simp[gI,iM,gq,gJ,AV.fits,AC.fits,FB,fP,fC]
 clear hcz hcs hall hk;rintro⟨v,m,cs,i,h⟩ ⟨hcs,hall,hi0,hi1⟩;simp only at hcs hall hi0 hi1;simp only[FB,fP];have hw20:IntKind.i64.wrap (20+(cs.length:Int))=20+(cs.length:Int):=iY (by omega) (by omega)
 repeat' (first|(refine rg_ ?_;intro K hK)|((first|(with_reducible refine fD 0 false iR ?_)|(refine fD 0 false (by simp[kU,St.ev]) ?_));intro K hK)|refine nN ?_|(refine hq_ ?_;clear hK K)|refine ca_ ?_ ?_|(refine cg_ ?_;first|(refine dJ true (h:=(nR l _ _ (2) ‹_› ‹_› hl (by omega) (by omega))) (hK:= ?_);rintro _ _ _ ⟨⟨b,hb,rfl⟩,rfl,i,h,hi0,hi1,rfl⟩)|(refine dJ true (h:=(AY l _ _ (20+(cs.length:Int)) ‹_› ‹_› hl (by constructor<;>omega))) (hK:= ?_);rintro _ _ _ ⟨⟨x,hx,hxi,rfl⟩,rfl,i,h,hi0,hi1,rfl⟩))|((with_reducible refine kL ?_);first|(refine kF true (h:=(nR l _ _ (2) ‹_› ‹_› hl (by omega) (by omega))) (hne:=⟨_,[],fC l 0 0,⟨⟨0,by omega,rfl⟩,rfl,0,0,by omega,by omega,rfl⟩,rfl⟩) (hr:= ?_);rintro _ _ _ ⟨⟨b,hb,rfl⟩,rfl,i,h,hi0,hi1,rfl⟩)|(refine kF true (h:=(AY l _ _ (20+(cs.length:Int)) ‹_› ‹_› hl (by constructor<;>omega))) (hne:=⟨_,[],fC l 0 0,⟨⟨⟨20+(cs.length:Int),0,0,⟨#[]⟩,⟨#[]⟩,0⟩,Yx (by constructor<;>omega),rfl,rfl⟩,rfl,0,0,by omega,by omega,rfl⟩,rfl⟩) (hr:= ?_);rintro _ _ _ ⟨⟨x,hx,hxi,rfl⟩,rfl,i,h,hi0,hi1,rfl⟩))|refine sz_ (a4_ tdC @kW hwb hw20) ?_|refine nv ?_|(refine c2_ ?_ ?_<;>(intro hb hb';try(exfalso;omega)))|(exact GCell.el _)|(exact GCell.el [⟨_,_,_,_,_,_⟩])|exact bq_|fail)
 all_goals first
  |omega
  |exact Px rfl rfl rfl rfl (by kernel_rfl) ⟨⟨cs,hcs,hall,rfl,rfl⟩,i,h,hi0,hi1,rfl⟩
  | (refine gY (v+1,false,cs++ [x],i,h) ⟨?fr,⟨⟨XB,rfl,rfl,rfl,rfl⟩,trivial⟩,⟨rfl,rfl,rfl,trivial⟩,rfl⟩ ⟨by simp;omega,XD hall (hx.mono (by decide)),hi0,hi1⟩ (show 9 - (cs++ [x]).length<9 - cs.length by simp;omega)
     case fr=>simp[iM,AV.fits,AC.fits,FB,fP])
end
section
open Nat renaming zero_le→a_,le_trans→c_,le_refl→k_
open List renaming length_nil→b_,size_toArray→d_,mem_of_mem_take→e_,mem_of_mem_drop→f_,mem_cons→g_,set_cons_zero→h_,set_cons_succ→i_,mem_cons_self→j_,not_mem_nil→l_,getElem_mem→m_,mem_append→n_
theorem Nb(s:ByteArray):(jX s).size≤s.size+1:=by
 unfold jX;split
 ·show 1≤_;omega
 ·omega
theorem xX{W:Nat}{x:GCell}(h:mY W x)(hW:W≤1000000):(eu x).size≤W+x.name.size+100:=by
 unfold eu;split
 ·rw[wP];unfold mY at h;have h1:=jJ (n:=x.id) (by omega) (by omega);have h2:=jJ (n:=x.ver) (by omega) (by omega);have h3:=jJ (n:=x.kind) (by omega) (by omega);have h4:=jJ (n:=x.n) (by omega) (by omega);have h5:=Nb x.name;have h6:spB.size=1:=rfl;simp only[List.foldr_cons,List.foldr_nil,ByteArray.size_append];omega
 ·show 0≤_;omega
theorem Gs{B:Nat}{l:List GCell}(h:∀x∈l,(eu x).size≤B):∀k,(nX l k).size≤k*(B+1)
 |0=>by show 0≤_;omega
 | k+1=>by
   have ih:=Gs h k;rw[nX,Nat.add_mul];have h6:nlB.size=1:=rfl;split
   ·next x hx=>
    have h1:=h x (List.mem_of_getElem? hx);simp only[ByteArray.size_append];omega
   ·omega
end
section
open Nat renaming zero_le→a_,le_trans→c_,le_refl→k_
open List renaming length_nil→b_,size_toArray→d_,mem_of_mem_take→e_,mem_of_mem_drop→f_,mem_cons→g_,set_cons_zero→h_,set_cons_succ→i_,mem_cons_self→j_,not_mem_nil→l_,getElem_mem→m_,mem_append→n_
attribute [local irreducible] sw sd sn
theorem Yr{P:Program}{t ty b k v e s:Nat}{nw:Nw}{st:St}{cs:List GCell}{post:AV→List Own→Prop}(h1:st.fr.getD t .any= .bptr b 0)(h2:st.boxes[b]? =some [.own k v])(ho:st.owns[k]? =some ⟨cs.map GCell.toD,e,s,v,nw⟩)
 (hp:iZ P (.cell t ty) true 1=true) (hq:post (.c true [.own 0 0]) [⟨cs.map GCell.toD,e,s,0,⟨true,true⟩⟩]):qX (VX P (.cell t ty) post) .ret st:=
 ⟨true,[.own 0 0],[⟨cs.map GCell.toD,e,s,0,⟨true,true⟩⟩],[k],hq,rfl,by simp,⟨⟨_,ho,rfl,Or.inr (XY cs)⟩,trivial⟩,hp,b,_,h1,h2,⟨rfl,rfl,_,ho,rfl⟩,trivial⟩
def Ut :IC:=(zd_ [zz_ 2 (.mov (.k (.pointer none)))] (zd_ [zw_ 5 0,zf_ 6 false 5,zz_ 7 (.bin .add (.k (.int .i64 26583)) (.t 6)),zw_ 3 7] (.seq (zd_ [zk_ 4 0] (.block 0 (.loop (.seq (zd_ [zw_ 8 4,zw_ 9 0,zf_ 10 false 9,zl_ 11 .lss 8 10,zw_ 12 11,zv_ 13 12 4,zy_ 14 12 (.bin .lss (.t 13) (.k (.int .i64 4000))),zh_ 15 12 14 false] (.cond (.t 15) .skip (.exit 0))) (.seq (.block 1 (.reg false [zw_ 18 3,zm_ 19 .mul 18 131,zw_ 20 0,zw_ 21 4,ze_ 22 1 20 21,zs_ 23 1 22,zz_ 24 (.cvi .i64 (.t 23)),zl_ 25 .add 19 24,zm_ 26 .add 25 7,zm_ 27 .and 26 1073741823,zw_ 3 27])) (.reg false [zw_ 16 4,zm_ 17 .add 16 1,zw_ 4 17])))))) (zd_ [zw_ 28 0,zw_ 29 3,zz_ 30 (.bld [(.slice none 0 0),(.int .i64 0),(.int .i64 0)] [(0,1,(.t 28)),(2,1,(.t 29))]),zz_ 31 (.box (.t 30)),zw_ 2 31] .ret))))
theorem QI :bg Tryz.prog (Tryz.f49.body.getD .skip)=some Ut:=by kernel_rfl
theorem Ug(l:List UInt8)(n:Bool)(os:List Own)(bs:List (List AC))(hl:l.length≤1048576)(hb0:(bs.all fun xs=>xs.all (AC.fits os.length bs.length))=true)(hb:(bs.all fun xs=>xs.all (AC.fits os.length (bs.length+1)))=true):
 lD Tryz.prog 49 [.c false [.sl n (l.map lu8)]] os bs (fun r os' bs'=>r= .bptr bs.length 0∧os'=os∧∃h:Int,bs'=bs++ [[.sl n (l.map lu8),.raw (.int .i64 0),.raw (.int .i64 h)]]):=by
 refine Xt (fn:=Tryz.f49) (rs:= [.tmp 2]) (hc:=QI) (h:= ?_);unfold Ut;refine zb_ ?_;change iK _ _ _ _ (stS 32 _ _ _);refine sS tdX ?_;have hw0:IntKind.i64.wrap (26583+(l.length:Int))=26583+(l.length:Int):=iY (by omega) (by omega)
 repeat' (first|(refine rg_ ?_;intro K hK)|(refine hq_ ?_;clear hK K)|refine ca_ ?_ ?_|refine gq_ ?_|(refine c2_ ?_ ?_<;>(intro hb hb';try(exfalso;omega)))|refine sz_ (a3_ tdC @kW hw0) ?_|refine nv ?_|(exact GCell.el _)|(exact GCell.el [⟨_,_,_,_,_,_⟩])|exact bq_|fail)
 refine og (X:=Nat×Int) (fun z=> [.k,.d,.d,.v (.c false [.raw (.int .i64 z.2)]),.v (.c false [.raw (.int .i64 ((z.1:Nat)))])]) (fun _=>os) (fun _ _=>bs) (fun z=>z.1≤l.length) (fun z=>l.length - z.1) (0,26583+(l.length:Int)) (a_ _) (fun _=>⟨k_ _,k_ _⟩) ?_ ?_
 ·simp[gI,iM,sJ,tq,AV.fits,AC.fits,FB,fP,hb0]
 rintro⟨k,h⟩ hk;simp only at hk;simp only[FB,fP];have fin:∀{fr:List AV} {b:Nat},b=bs.length→fr.getD 2 .any= .bptr b 0→(∃r os' bs',(r= .bptr bs.length 0∧os'=os∧∃h:Int,bs'=bs++ [[.sl n (l.map lu8),.raw (.int .i64 0),.raw (.int .i64 h)]])∧os.length≤os'.length∧bs.length≤bs'.length∧YF [.tmp 2] r os' bs' ⟨fr,os,bs++ [[.sl n (l.map lu8),.raw (.int .i64 0),.raw (.int .i64 h)]]⟩):=by
  intro fr b hb1 h2;subst hb1;exact⟨_,_,_,⟨rfl,rfl,h,rfl⟩,k_ _,by simp,sJ _,tq _,by simpa[AC.fits]using hb,h2,by simp[AV.fits]⟩
 by_cases hlt:k<l.length
 ·have hT:decide ((k:Int)<(l.length:Int))=true:=decide_eq_true (by omega);have hw1:IntKind.i64.wrap ((k:Int)+1)=((k+1:Nat):Int):=iP (by omega);have hg:idx (l.map lu8) (some (k:Int))=some (.leaf (.int .u8 ((l[k]).toNat:Int))):=gK lu8 l hlt;cases hT2:decide ((k:Int)<4000)
  ·repeat' (first|(refine rg_ ?_;intro K hK)|(refine hq_ ?_;clear hK K)|refine ca_ ?_ ?_|refine gq_ ?_|(refine c2_ ?_ ?_<;>(intro hb hb';try(exfalso;omega)))|refine sz_ (a6_ tdC @kW hT hT2 hw1 hg) ?_|refine nv ?_|(exact GCell.el _)|(exact GCell.el [⟨_,_,_,_,_,_⟩])|exact bq_|fail)
   exact fin rfl rfl
  ·repeat' (first|(refine rg_ ?_;intro K hK)|(refine hq_ ?_;clear hK K)|refine ca_ ?_ ?_|refine gq_ ?_|(refine c2_ ?_ ?_<;>(intro hb hb';try(exfalso;omega)))|refine sz_ (a6_ tdC @kW hT hT2 hw1 hg) ?_|refine nv ?_|(exact GCell.el _)|(exact GCell.el [⟨_,_,_,_,_,_⟩])|exact bq_|fail)
   all_goals first
    |exact UZ l
    | (refine gY (k+1,LZ .i64 (IntKind.i64.wrap (IntKind.i64.wrap (IntKind.i64.wrap (h*131)+IntKind.i64.wrap ((l[k]).toNat:Int))+7)) 1073741823) ?_ (show k+1≤l.length by omega) (show l.length - (k+1)<l.length - k by omega)
       simp[gI,iM,sJ,tq,AV.fits,AC.fits,FB,fP,hb0])
 ·have hT:decide ((k:Int)<(l.length:Int))=false:=decide_eq_false (by omega)
  repeat' (first|(refine rg_ ?_;intro K hK)|(refine hq_ ?_;clear hK K)|refine ca_ ?_ ?_|refine gq_ ?_|(refine c2_ ?_ ?_<;>(intro hb hb';try(exfalso;omega)))|refine sz_ (a3_ tdC @kW hT) ?_|refine nv ?_|(exact GCell.el _)|(exact GCell.el [⟨_,_,_,_,_,_⟩])|exact bq_|fail)
  exact fin rfl rfl
def DY :IC:=(zd_ [zz_ 2 (.alloc [(.slice none 0 0)])] (zd_ [zw_ 3 0,zq_ 4 49 3,zq_ 5 48 4,⟨none,none,.store 1 (.t 2) (.t 5)⟩] .ret))
theorem FH :bg Tryz.prog (Tryz.f12.body.getD .skip)=some DY:=by kernel_rfl
theorem Q9(l:List UInt8)(hl:l.length≤1048576):iD Tryz.prog 12 [.sl (l.map lu8)] (fun r os'=>∃cs:List GCell,cs.length≤9∧(∀x∈cs,mY 5000 x)∧r= .c true [.own 0 0]∧os'= [⟨cs.map GCell.toD,45,6,0,⟨true,true⟩⟩]):=by
 refine lU (fn:=Tryz.f12) (r:= .cell 2 36) (hc:=FH) (h:= ?_);unfold DY;refine zb_ ?_;change AWP _ _ _ (st0 6 _);refine sS tdX ?_
 repeat' (first|(refine rg_ ?_;intro K hK)|(refine hq_ ?_;clear hK K)|refine ca_ ?_ ?_|(refine cg_ ?_;first|((refine Ez (Ug l _ _ _ hl (by simp[AC.fits]) (by simp[AC.fits])) ?_);rintro _ _ _ ⟨rfl,rfl,h,rfl⟩)|(refine dJ false (h:=(V4 l _ _ (by first|assumption|omega) (by first|assumption|omega) hl)) (hK:= ?_);rintro _ _ _ ⟨⟨cs,hcs,hallcs,rfl,rfl⟩,i,h,hi0,hi1,rfl⟩))|refine sz_ (Zm tdC @kW) ?_|refine nv ?_|(refine c2_ ?_ ?_<;>(intro hb hb';try(exfalso;omega)))|(exact GCell.el _)|(exact GCell.el [⟨_,_,_,_,_,_⟩])|exact bq_|fail)
 exact Yr rfl rfl rfl (by kernel_rfl) ⟨cs,hcs,hallcs,rfl,rfl⟩
theorem LQ{W:Nat}(hW:W≤1000000){x:GCell}(h:mY W x):x.toD.wf:=by
 obtain⟨h1,h2,h3,h4,h5,h6⟩:=h;rw[GCell.bQ];exact⟨jT (by omega) (by omega),jT (by omega) (by omega),jT (by omega) (by omega),c_ h5 (by decide),c_ h6 (c_ hW (by decide)),jT (by omega) (by omega),trivial⟩
theorem zx{W:Nat}(hW:W≤1000000):∀{cs:List GCell},(∀x∈cs,mY W x)→D.wfs (cs.map GCell.toD)
 | [],_=>trivial
 |x::cs,h=>⟨LQ hW (h x (by simp)),zx hW fun y hy=>h y (by simp[hy])⟩
theorem Ag{W:Nat}(hW:W≤1000000){x:GCell}(h:mY W x):qU x:=by
 obtain⟨h1,h2,h3,h4,h5,h6⟩:=h;exact⟨by omega,by omega⟩
theorem Eb{W n:Nat}{l:List GCell}(h:∀x∈l,mY W x)(hW:W≤1000000)(hn:l.length≤n):(kP l).size≤n*(W+1101):=by
 unfold kP;split
 ·have h1:=Gs (B:=W+1100) (l:=l) (fun x hx=>by
   have h2:=xX (h x hx) hW;have h3:=(h x hx).2.2.2.2.1;omega) l.length
  exact c_ h1 (Nat.mul_le_mul_right _ hn)
 ·exact a_ _
def Gm :IC:=(zd_ [zz_ 2 (.mov (.k (.string ⟨#[]⟩)))] (zd_ [zw_ 4 0,zq_ 5 49 4,zw_ 3 5] (zd_ [zw_ 6 3,zw_ 7 3,zw_ 8 3,zn_ 9 57 8 3,zz_ 10 (.bin .add (.k (.int .i64 1)) (.t 9)),zp_ 11 56 7 10,zq_ 12 51 11,zz_ 13 (.brow false 9 1 5 false [(.k (.string ⟨#[32]⟩)),(.k (.string ⟨#[48]⟩)),(.k (.string ⟨#[45]⟩)),(.k (.string ⟨#[10]⟩)),(.k (.string ⟨#[120]⟩))]),zo_ 14 53 6 12 13,zw_ 2 14] .ret)))
theorem Iy :bg Tryz.prog (Tryz.f20.body.getD .skip)=some Gm:=by kernel_rfl
theorem yg(l:List UInt8)(hl:l.length≤1048576):iD Tryz.prog 20 [.sl (l.map lu8)] (fun r os'=>(∃z:ByteArray,z.size≤3000∧r= .c false [.raw (.string z)])∧os'= []):=by
 refine lU (fn:=Tryz.f20) (r:= .tmp 2) (hc:=Iy) (h:= ?_);unfold Gm;refine zb_ ?_;change AWP _ _ _ (st0 15 _);refine sS tdX ?_
 repeat' (first|(refine rg_ ?_;intro K hK)|(refine hq_ ?_;clear hK K)|refine ca_ ?_ ?_|(refine cg_ ?_;first|((refine Ez (Ug l _ _ _ hl (by simp[AC.fits]) (by simp[AC.fits])) ?_);rintro _ _ _ ⟨rfl,rfl,h,rfl⟩)|(refine dJ false (h:=(nR l _ _ 3 (by first|assumption|omega) (by first|assumption|omega) hl (by decide) (by decide))) (hK:= ?_);rintro _ _ _ ⟨⟨k,hk,rfl⟩,rfl,i,h,hi0,hi1,rfl⟩)|(refine dJ false (h:=(AY l _ _ _ (by first|assumption|omega) (by first|assumption|omega) hl (by constructor<;>omega))) (hK:= ?_);rintro _ _ _ ⟨⟨x,hx,hxi,rfl⟩,rfl,i,h,hi0,hi1,rfl⟩))|refine sz_ (Zm tdC @kW) ?_|refine nv ?_|(refine c2_ ?_ ?_<;>(intro hb hb';try(exfalso;omega)))|(exact GCell.el _)|(exact GCell.el [⟨_,_,_,_,_,_⟩])|exact bq_|fail)
 all_goals try omega
 have hfs:=xX hx (by decide);have hxn:=hx.2.2.2.2.1;have hfc:=mg x (LQ (by decide) hx) (by have:=hx.2.2.2.2.2;omega) (by omega)
 repeat' (first|(refine rg_ ?_;intro K hK)|(refine hq_ ?_;clear hK K)|refine ca_ ?_ ?_|(refine cg_ ?_;first|refine cT_ hfc ?_|(refine dJ false (h:=(Cb l _ _ (eu x) [(⟨#[32]⟩:ByteArray),(⟨#[48]⟩:ByteArray),(⟨#[45]⟩:ByteArray),(⟨#[10]⟩:ByteArray),(⟨#[120]⟩:ByteArray)] (by first|assumption|omega) (by first|assumption|omega) hl (by omega) (by simp) (by simp) (by decide))) (hK:= ?_);rintro _ _ _ ⟨⟨y,hy,rfl⟩,rfl,i,h,hi0,hi1,rfl⟩))|refine sz_ (Zm tdC @kW) ?_|refine nv ?_|(refine c2_ ?_ ?_<;>(intro hb hb';try(exfalso;omega)))|(exact GCell.el _)|(exact GCell.el [⟨_,_,_,_,_,_⟩])|exact bq_|fail)
 all_goals first
  |omega
  |exact aC [(⟨#[32]⟩:ByteArray),(⟨#[48]⟩:ByteArray),(⟨#[45]⟩:ByteArray),(⟨#[10]⟩:ByteArray),(⟨#[120]⟩:ByteArray)]
  |exact jf rfl rfl ⟨⟨_,by first|assumption|omega,rfl⟩,rfl⟩
def DX :IC:=(zd_ [zz_ 2 (.mov (.k (.string ⟨#[]⟩)))] (zd_ [zw_ 4 0,zq_ 5 49 4,zw_ 3 5] (zd_ [zw_ 6 3,zw_ 7 3,zn_ 8 54 7 6,zq_ 9 15 8,zz_ 10 (.brow false 9 1 4 false [(.k (.string ⟨#[10]⟩)),(.k (.string ⟨#[32]⟩)),(.k (.string ⟨#[49]⟩)),(.k (.string ⟨#[45]⟩))]),zo_ 11 53 6 9 10,zw_ 2 11] .ret)))
theorem FD :bg Tryz.prog (Tryz.f18.body.getD .skip)=some DX:=by kernel_rfl
theorem Gw(l:List UInt8)(hl:l.length≤1048576):iD Tryz.prog 18 [.sl (l.map lu8)] (fun r os'=>(∃z:ByteArray,z.size≤20000∧r= .c false [.raw (.string z)])∧os'= []):=by
 refine lU (fn:=Tryz.f18) (r:= .tmp 2) (hc:=FD) (h:= ?_);unfold DX;refine zb_ ?_;change AWP _ _ _ (st0 12 _);refine sS tdX ?_
 repeat' (first|(refine rg_ ?_;intro K hK)|(refine hq_ ?_;clear hK K)|refine ca_ ?_ ?_|(refine cg_ ?_;first|((refine Ez (Ug l _ _ _ hl (by simp[AC.fits]) (by simp[AC.fits])) ?_);rintro _ _ _ ⟨rfl,rfl,h,rfl⟩)|(refine dJ false (h:=(N7 l _ _ 6 (by first|assumption|omega) (by first|assumption|omega) hl (by decide))) (hK:= ?_);rintro _ _ _ ⟨⟨cs,hcs,hallcs,rfl,rfl⟩,i,h,hi0,hi1,rfl⟩))|refine sz_ (Zm tdC @kW) ?_|refine nv ?_|(refine c2_ ?_ ?_<;>(intro hb hb';try(exfalso;omega)))|(exact GCell.el _)|(exact GCell.el [⟨_,_,_,_,_,_⟩])|exact bq_|fail)
 have hfs:=Eb hallcs (by decide) hcs;have hfc:=nJ ⟨cs⟩ (zx (by decide) hallcs) (fun c hc=>Ag (by decide) (hallcs c hc));simp only at hfc
 repeat' (first|(refine rg_ ?_;intro K hK)|(refine hq_ ?_;clear hK K)|refine ca_ ?_ ?_|(refine cg_ ?_;first|refine cT_ hfc ?_|(refine dJ false (h:=(Cb l _ _ (kP cs) [(⟨#[10]⟩:ByteArray),(⟨#[32]⟩:ByteArray),(⟨#[49]⟩:ByteArray),(⟨#[45]⟩:ByteArray)] (by first|assumption|omega) (by first|assumption|omega) hl (by omega) (by simp) (by simp) (by decide))) (hK:= ?_);rintro _ _ _ ⟨⟨y,hy,rfl⟩,rfl,i,h,hi0,hi1,rfl⟩))|refine sz_ (Zm tdC @kW) ?_|refine nv ?_|(refine c2_ ?_ ?_<;>(intro hb hb';try(exfalso;omega)))|(exact GCell.el _)|(exact GCell.el [⟨_,_,_,_,_,_⟩])|exact bq_|fail)
 all_goals first
  |omega
  |exact aC [(⟨#[10]⟩:ByteArray),(⟨#[32]⟩:ByteArray),(⟨#[49]⟩:ByteArray),(⟨#[45]⟩:ByteArray)]
  |exact jf rfl rfl ⟨⟨_,by first|assumption|omega,rfl⟩,rfl⟩
end
end Go.Proofs.YtfengkmaphbofaaGreatDoor
