/-
  Texts joined: Draw1.
-/
import Derived.Test.YtfjmoicellpnhaaGreatJE
set_option maxHeartbeats 4000000
namespace Go.Proofs.YtfjmoicellpnhaaGreat
open Go.RowKit
open BitVec renaming ofInt→a_
open Int renaming eq_ofNat_of_zero_le→b_
set_option linter.unusedSimpArgs false
set_option linter.unusedVariables false
attribute [local irreducible] sw sd sn
theorem ae6(a:Int){n:Nat}(h:n≤1073741823):0≤SG .i64 a (n:Int)∧SG .i64 a (n:Int)≤(n:Int):=by
 unfold SG
 have h1:(a_ IntKind.i64.bits a &&& a_ IntKind.i64.bits (n:Int)).toNat≤n:=by
  rw[BitVec.toNat_and]
  refine Nat.le_trans Nat.and_le_right ?_
  show(a_ 64 (n:Int)).toNat≤n
  rw[BitVec.toNat_ofInt]
  omega
 have h2:IntKind.i64.wrap (((a_ IntKind.i64.bits a &&& a_ IntKind.i64.bits (n:Int)).toNat:Nat):Int)=(((a_ IntKind.i64.bits a &&& a_ IntKind.i64.bits (n:Int)).toNat:Nat):Int):=by
  generalize(a_ IntKind.i64.bits a &&& a_ IntKind.i64.bits (n:Int)).toNat=k at h1
  exact jw (by omega) (by omega)
 rw[h2]
 omega
theorem Fv(a:Int):0≤SG .i64 a 255∧SG .i64 a 255≤255:=ae6 a (n:=255) (by decide)
def bZ(l:List UInt8)(i h:Int):List AC:= [.sl true (l.map lu8),.raw (.int .i64 i),.raw (.int .i64 h)]
def qo(l:List UInt8)(c:List AC):Prop:=∃i h:Int,0≤i∧i≤l.length∧c=bZ l i h
def XH :IC:=(zd_ [zk_ 2 0] (zd_ [zw_ 4 0,zw_ 5 0,zi_ 6 5,zt_ 7 2 6,zs_ 8 1 7,zm_ 9 .mul 8 6364136223846793005,zm_ 10 .add 9 1442695040888963407,zi_ 11 4,zt_ 12 2 11,⟨none,none,.store 1 (.t 12) (.t 10)⟩] (.seq (.reg true [zw_ 13 0,zi_ 14 13,zt_ 15 2 14,zs_ 16 1 15,zz_ 17 (.bin .shr (.t 16) (.k (.int .u64 33))),zw_ 18 0,zi_ 19 18,zt_ 20 2 19,zs_ 21 1 20,zz_ 22 (.bin .shr (.t 21) (.k (.int .u64 45))),zl_ 23 .xor 17 22,zm_ 24 .and 23 255,zw_ 3 24]) (.seq (.seq (.reg true [zw_ 25 0,zi_ 26 25,zt_ 27 1 26,zs_ 28 1 27,zw_ 29 0,zi_ 30 29,zt_ 31 0 30,zs_ 32 1 31,zf_ 33 false 32,zl_ 34 .lss 28 33]) (.cond (.t 34) (.seq (.reg true [zw_ 35 3,zw_ 36 0,zi_ 37 36,zt_ 38 0 37,zs_ 39 1 38,zw_ 40 0,zi_ 41 40,zt_ 42 1 41,zs_ 43 1 42,ze_ 44 1 39 43,zs_ 45 1 44,zz_ 46 (.cvi .i64 (.t 45)),zl_ 47 .add 35 46,zm_ 48 .and 47 255,zw_ 3 48]) (.reg false [zw_ 49 0,zw_ 50 0,zi_ 51 50,zt_ 52 1 51,zs_ 53 1 52,zm_ 54 .add 53 1,zi_ 55 49,zt_ 56 1 55,⟨none,none,.store 1 (.t 56) (.t 54)⟩])) .skip)) (zd_ [zw_ 57 3,zw_ 2 57] .ret)))))
theorem U3 :ay Tryz.prog (Tryz.f100.body.getD .skip)=some XH:=by kernel_rfl
theorem acE(l:List UInt8):El 1 (l.map lu8):=fun d hd=>by obtain⟨x,_,rfl⟩:=List.mem_map.1 hd;exact⟨rfl,rfl⟩
theorem adi(l:List UInt8)(i h:Int)(h0:0≤i)(h1:i≤l.length)(hl:l.length≤1048576):bH Tryz.prog 100 [] (bZ l i h) (fun r os' c'=>(∃x:Int,0≤x∧x≤255∧r= .c false [.raw (.int .i64 x)])∧os'= []∧qo l c'):=by
 refine fQ (fn:=Tryz.f100) (r:= .tmp 2) (hc:=U3) (h:= ?_)
 unfold XH bZ;refine zb_ ?_
 change dK _ _ _ _ (stS 58 _ _ _)
 refine sS trivial ?_
 by_cases hlt:i<(l.length:Int)
 ·have hT:decide (i<(l.length:Int))=true:=decide_eq_true hlt
  obtain⟨k,rfl⟩:=b_ h0
  have hk:k<l.length:=by omega
  have hg:idx (l.map lu8) (some (k:Int))=some (.leaf (.int .u8 ((l[k]).toNat:Int))):=dD lu8 l hk
  repeat' (first|(refine hq_ ?_;clear hK K)|refine ca_ ?_ ?_|((with_reducible refine ak ?_);refine ss (aho hT hg) ?_)|((with_reducible refine bf ?_);refine sx (aho hT hg) ?_)|refine nv ?_|(refine rD ?_;intro K hK)|(refine c2_ ?_ ?_<;>(intro hb hb';try(exfalso;omega)))|exact aA|exact au)
  all_goals first
   |exact acE l
   |exact⟨false,_,[],_,[],⟨⟨_,(Fv _).1,(Fv _).2,rfl⟩,rfl,_,_,by omega,by omega,rfl⟩,rfl,rfl,rfl,by simp,trivial,rfl,_,rfl,⟨rfl,trivial⟩⟩
 ·have hT:decide (i<(l.length:Int))=false:=decide_eq_false hlt
  repeat' (first|(refine hq_ ?_;clear hK K)|refine ca_ ?_ ?_|((with_reducible refine ak ?_);refine ss hT ?_)|((with_reducible refine bf ?_);refine sx hT ?_)|refine nv ?_|(refine rD ?_;intro K hK)|(refine c2_ ?_ ?_<;>(intro hb hb';try(exfalso;omega)))|exact aA|exact au)
  exact⟨false,_,[],_,[],⟨⟨_,(Fv _).1,(Fv _).2,rfl⟩,rfl,_,_,h0,h1,rfl⟩,rfl,rfl,rfl,by simp,trivial,rfl,_,rfl,⟨rfl,trivial⟩⟩
def Rf :IC:=(zd_ [zk_ 4 0] (.seq (zd_ [zw_ 9 1,zm_ 10 .leq 9 0] (.cond (.t 10) (zd_ [zk_ 4 0] .ret) .skip)) (.seq (zd_ [zw_ 11 1,zm_ 12 .leq 11 256] (.cond (.t 12) (zd_ [zw_ 13 0,zq_ 14 100 13,zw_ 15 1,zl_ 16 .rem 14 15,zw_ 4 16] .ret) .skip)) (zd_ [zw_ 17 0,zq_ 18 100 17,zw_ 5 18] (zd_ [zw_ 19 0,zq_ 20 100 19,zw_ 6 20] (zd_ [zw_ 21 0,zq_ 22 100 21,zw_ 7 22] (zd_ [zw_ 23 0,zq_ 24 100 23,zw_ 8 24] (zd_ [zw_ 25 5,zm_ 26 .mul 25 16777216,zw_ 27 6,zm_ 28 .mul 27 65536,zl_ 29 .add 26 28,zw_ 30 7,zm_ 31 .mul 30 256,zl_ 32 .add 29 31,zw_ 33 8,zl_ 34 .add 32 33,zw_ 35 1,zl_ 36 .rem 34 35,zw_ 4 36] .ret))))))))
theorem Q9 :ay Tryz.prog (Tryz.f76.body.getD .skip)=some Rf:=by kernel_rfl
theorem EU{a n:Int}(h:0≤a)(hn:0<n):0≤a.tmod n∧a.tmod n<n:=⟨Int.tmod_nonneg _ h,Int.tmod_lt_of_pos _ hn⟩
theorem bg(l:List UInt8)(i h:Int)(n:Int)(h0:0≤i)(h1:i≤l.length)(hl:l.length≤1048576)(hn:n≤1099511627776):bH Tryz.prog 76 [li n] (bZ l i h) (fun r os' c'=>(∃x:Int,0≤x∧(0<n→x<n)∧(n≤0→x=0)∧r= .c false [.raw (.int .i64 x)])∧os'= []∧qo l c'):=by
 refine fQ (fn:=Tryz.f76) (r:= .tmp 4) (hc:=Q9) (h:= ?_)
 unfold Rf bZ;refine zb_ ?_
 change dK _ _ _ _ (stS 37 _ _ _)
 refine sS trivial ?_
 by_cases hn0:n≤0
 ·have hT:decide (n≤0)=true:=decide_eq_true hn0
  repeat' (first|(refine rg_ ?_;intro K hK)|(refine hq_ ?_;clear hK K)|refine ca_ ?_ ?_|((with_reducible refine ak ?_);refine ss (aho hT @bZ.eq_1) ?_)|refine nv ?_|(refine c2_ ?_ ?_<;>(intro hb hb';try(exfalso;omega)))|exact aA|exact au)
  exact⟨false,_,[],_,[],⟨⟨0,Int.le_refl _,fun hp=>absurd hn0 (by omega),fun _=>rfl,rfl⟩,rfl,_,_, ‹_›, ‹_›,rfl⟩,rfl,rfl,rfl,by simp,trivial,rfl,_,rfl,⟨rfl,trivial⟩⟩
 ·have hT:decide (n≤0)=false:=decide_eq_false hn0
  have hz:(n=0)=False:=eq_false (by omega)
  by_cases hs:n≤256
  ·have hT2:decide (n≤256)=true:=decide_eq_true hs
   repeat' (first|(refine rg_ ?_;intro K hK)|(refine hq_ ?_;clear hK K)|refine ca_ ?_ ?_|((with_reducible refine aB ?_);first|(refine aC true (h:=(adi l _ _ (by assumption) (by assumption) hl)) (hK:= ?_);rintro _ _ _ ⟨⟨x,hx0,hx1,rfl⟩,rfl,i,h,hi0,hi1,rfl⟩))|((with_reducible refine ak ?_);refine ss (aho hT (aho hT2 (aho hz @bZ.eq_1))) ?_)|refine nv ?_|(refine c2_ ?_ ?_<;>(intro hb hb';try(exfalso;omega)))|exact aA|exact au)
   exact⟨false,_,[],_,[],⟨⟨_,(EU hx0 (by omega)).1,fun hp=>(EU hx0 hp).2,fun hp=>absurd hp hn0,rfl⟩,rfl,_,_, ‹_›, ‹_›,rfl⟩,rfl,rfl,rfl,by simp,trivial,rfl,_,rfl,⟨rfl,trivial⟩⟩
  ·have hT2:decide (n≤256)=false:=decide_eq_false hs
   repeat' (first|(refine rg_ ?_;intro K hK)|(refine hq_ ?_;clear hK K)|refine ca_ ?_ ?_|((with_reducible refine aB ?_);first|(refine aC true (h:=(adi l _ _ (by assumption) (by assumption) hl)) (hK:= ?_);rintro _ _ _ ⟨⟨x,hx0,hx1,rfl⟩,rfl,i,h,hi0,hi1,rfl⟩))|((with_reducible refine ak ?_);refine ss (aho hT (aho hT2 (aho hz @bZ.eq_1))) ?_)|refine nv ?_|(refine c2_ ?_ ?_<;>(intro hb hb';try(exfalso;omega)))|exact aA|exact au)
   exact⟨false,_,[],_,[],⟨⟨_,(EU (by omega) (by omega)).1,fun hp=>(EU (by omega) hp).2,fun hp=>absurd hp hn0,rfl⟩,rfl,_,_, ‹_›, ‹_›,rfl⟩,rfl,rfl,rfl,by simp,trivial,rfl,_,rfl,⟨rfl,trivial⟩⟩
def Xo :IC:=(zd_ [zj_ 4 false] (zd_ [zw_ 5 0,zw_ 6 1,zp_ 7 76 5 6,zm_ 8 .eql 7 0,zw_ 4 8] .ret))
theorem UG :ay Tryz.prog (Tryz.f83.body.getD .skip)=some Xo:=by kernel_rfl
theorem tV(l:List UInt8)(i h:Int)(n:Int)(h0:0≤i)(h1:i≤l.length)(hl:l.length≤1048576)(hn:n≤1099511627776):bH Tryz.prog 83 [li n] (bZ l i h) (fun r os' c'=>(∃b:Bool,r= .c false [.raw (.bool b)])∧os'= []∧qo l c'):=by
 refine fQ (fn:=Tryz.f83) (r:= .tmp 4) (hc:=UG) (h:= ?_)
 unfold Xo bZ;refine zb_ ?_
 change dK _ _ _ _ (stS 9 _ _ _)
 refine sS trivial ?_
 repeat' (first|(refine rg_ ?_;intro K hK)|(refine hq_ ?_;clear hK K)|refine ca_ ?_ ?_|((with_reducible refine aB ?_);first|(refine aC true (h:=(bg l _ _ _ (by assumption) (by assumption) hl hn)) (hK:= ?_);rintro _ _ _ ⟨⟨x,hx0,hx1,hx2,rfl⟩,rfl,i,h,hi0,hi1,rfl⟩))|((with_reducible refine ak ?_);refine ss @bZ.eq_1 ?_)|refine nv ?_|(refine c2_ ?_ ?_<;>(intro hb hb';try(exfalso;omega)))|exact aA|exact au)
 exact⟨false,_,[],_,[],⟨⟨_,rfl⟩,rfl,_,_, ‹_›, ‹_›,rfl⟩,rfl,rfl,rfl,by simp,trivial,rfl,_,rfl,⟨rfl,trivial⟩⟩
def Xn :IC:=(zd_ [zz_ 4 (.mov (.k (.string ⟨#[]⟩)))] (zd_ [zw_ 5 1,zw_ 6 0,zw_ 7 1,zf_ 8 false 7,zp_ 9 76 6 8,ze_ 10 1 5 9,zs_ 11 1 10,zw_ 4 11] .ret))
theorem UF :ay Tryz.prog (Tryz.f89.body.getD .skip)=some Xn:=by kernel_rfl
theorem Gf(l:List UInt8)(i h:Int)(q:List ByteArray)(h0:0≤i)(h1:i≤l.length)(hl:l.length≤1048576)(hq:0<q.length)(hq2:q.length≤1048576):bH Tryz.prog 89 [.sl (q.map ls)] (bZ l i h) (fun r os' c'=>(∃s∈q,r= .c false [.raw (.string s)])∧os'= []∧qo l c'):=by
 refine fQ (fn:=Tryz.f89) (r:= .tmp 4) (hc:=UF) (h:= ?_)
 unfold Xn bZ;refine zb_ ?_
 change dK _ _ _ _ (stS 12 _ _ _)
 refine sS trivial ?_
 repeat' (first|(refine rg_ ?_;intro K hK)|(refine hq_ ?_;clear hK K)|refine ca_ ?_ ?_|((with_reducible refine aB ?_);first|(refine aC true (h:=(bg l _ _ (q.length:Int) (by assumption) (by assumption) hl (by omega))) (hK:= ?_);rintro _ _ _ ⟨⟨x,hx0,hx1,hx2,rfl⟩,rfl,i,h,hi0,hi1,rfl⟩))|((with_reducible refine ak ?_);refine ss @bZ.eq_1 ?_)|refine nv ?_|(refine c2_ ?_ ?_<;>(intro hb hb';try(exfalso;omega)))|exact aA|exact au)
 all_goals first
  |exact dF _
  |skip
 obtain⟨k,rfl⟩:=b_ hx0
 have hk:k<q.length:=by have:=hx1 (by omega);omega
 have hg:idx (q.map ls) (some (k:Int))=some (ls q[k]):=dD ls q hk
 repeat' (first|(refine rg_ ?_;intro K hK)|(refine hq_ ?_;clear hK K)|refine ca_ ?_ ?_|((with_reducible refine ak ?_);refine ss (aho hg @bZ.eq_1) ?_)|refine nv ?_|(refine c2_ ?_ ?_<;>(intro hb hb';try(exfalso;omega)))|exact aA|exact au)
 exact⟨false,_,[],_,[],⟨⟨_,List.getElem_mem hk,rfl⟩,rfl,_,_, ‹_›, ‹_›,rfl⟩,rfl,rfl,rfl,by simp,trivial,rfl,_,rfl,⟨rfl,trivial⟩⟩
def GY :IC:=(zd_ [zk_ 4 0] (zd_ [zw_ 5 1,zw_ 6 0,zw_ 7 1,zf_ 8 false 7,zp_ 9 76 6 8,ze_ 10 1 5 9,zs_ 11 1 10,zw_ 4 11] .ret))
theorem Jy :ay Tryz.prog (Tryz.f112.body.getD .skip)=some GY:=by kernel_rfl
theorem YR(l:List UInt8)(i h:Int)(q:List Int)(h0:0≤i)(h1:i≤l.length)(hl:l.length≤1048576)(hq:0<q.length)(hq2:q.length≤1048576):bH Tryz.prog 112 [.sl (q.map li)] (bZ l i h) (fun r os' c'=>(∃s∈q,r= .c false [.raw (.int .i64 s)])∧os'= []∧qo l c'):=by
 refine fQ (fn:=Tryz.f112) (r:= .tmp 4) (hc:=Jy) (h:= ?_)
 unfold GY bZ;refine zb_ ?_
 change dK _ _ _ _ (stS 12 _ _ _)
 refine sS trivial ?_
 repeat' (first|(refine rg_ ?_;intro K hK)|(refine hq_ ?_;clear hK K)|refine ca_ ?_ ?_|((with_reducible refine aB ?_);first|(refine aC true (h:=(bg l _ _ (q.length:Int) (by assumption) (by assumption) hl (by omega))) (hK:= ?_);rintro _ _ _ ⟨⟨x,hx0,hx1,hx2,rfl⟩,rfl,i,h,hi0,hi1,rfl⟩))|((with_reducible refine ak ?_);refine ss @bZ.eq_1 ?_)|refine nv ?_|(refine c2_ ?_ ?_<;>(intro hb hb';try(exfalso;omega)))|exact aA|exact au)
 all_goals first
  |exact dQ _
  |skip
 obtain⟨k,rfl⟩:=b_ hx0
 have hk:k<q.length:=by have:=hx1 (by omega);omega
 have hg:idx (q.map li) (some (k:Int))=some (li q[k]):=dD li q hk
 repeat' (first|(refine rg_ ?_;intro K hK)|(refine hq_ ?_;clear hK K)|refine ca_ ?_ ?_|((with_reducible refine ak ?_);refine ss (aho hg @bZ.eq_1) ?_)|refine nv ?_|(refine c2_ ?_ ?_<;>(intro hb hb';try(exfalso;omega)))|exact aA|exact au)
 exact⟨false,_,[],_,[],⟨⟨_,List.getElem_mem hk,rfl⟩,rfl,_,_, ‹_›, ‹_›,rfl⟩,rfl,rfl,rfl,by simp,trivial,rfl,_,rfl,⟨rfl,trivial⟩⟩
end Go.Proofs.YtfjmoicellpnhaaGreat
